/-
  The walk of the statement ConfOrder.
-/
import Derived.Test.YtnmdiageigbphaaDoorKo1
import Derived.Test.YtnmdiageigbphaaDoorInts
import Derived.Test.YtnmdiageigbphaaDoorOctet5
namespace Go.Proofs.YtnmdiageigbphaaDoor
open Go.RowKit

theorem str_add0 (x y : List UInt8) (hx : x.length ≤ 100000) (hy : y.length ≤ 100000) : ∀ w, (Op.stringOp .add (str x) (str y)).run Tryd.prog w = .ok (.string (str (x ++ y))) w := fun w => str_addL w x y (by omega)
abbrev ordC : Array Value := #[.string (str (lineO 0)), .string (str (lineO 1)), .string (str (lineO 2)), .string (str (lineO 3)), .string (str (lineO 4)), .string (str (lineO 5)), .string (str (lineO 6)), .string (str (lineO 7)), .string (str (lineO 8)), .string (str (lineO 9))]
theorem ordC_get (k : Nat) (hk : k < 10) : ordC[k]? = some (.string (str (lineO k))) :=
  ten_cases (fun k => ordC[k]? = some (.string (str (lineO k)))) k hk rfl rfl rfl rfl rfl rfl rfl rfl rfl rfl
/-- The first of them are numbers of lines, each another. -/
def okO (l : List Int) (i : Nat) : Prop := ∀ j, j < i → 0 ≤ l.getD j 0 ∧ l.getD j 0 ≤ 9 ∧ ∀ k, k < j → l.getD k 0 ≠ l.getD j 0
def natO (l : List Int) : List Nat := l.map Int.toNat
theorem natO_take {l : List Int} {i : Nat} (h : i < l.length) : (natO l).take (i + 1) = (natO l).take i ++ [(l.getD i 0).toNat] := by
  rw [natO, List.take_succ_eq_append_getElem (by simpa using h)]
  simp [List.getD, h]
theorem okO.lt {l : List Int} {i : Nat} (h : okO l i) (hi : i ≤ l.length) : ∀ k ∈ (natO l).take i, k < 10 := by
  intro k hk
  obtain ⟨j, hj, rfl⟩ := List.mem_iff_getElem.1 hk
  have hj' : j < i := by simp at hj; omega
  have := h j hj'
  simp [natO, List.getD, show j < l.length by omega] at this ⊢
  omega
theorem okO.nodup {l : List Int} {i : Nat} (h : okO l i) (hi : i ≤ l.length) : ((natO l).take i).Nodup := by
  rw [List.nodup_iff_pairwise_ne, List.pairwise_iff_getElem]
  intro a b ha hb hab e
  have ha' : a < i := by simp at ha; omega
  have hb' : b < i := by simp at hb; omega
  have h1 := h a ha'
  have h2 := h b hb'
  have h3 := h2.2.2 a hab
  simp [natO, List.getD, show a < l.length by omega, show b < l.length by omega] at h1 h2 h3 e
  omega
set_option maxRecDepth 100000 in
theorem confOrder_long (w : World) (hm : mlIs w) (A : Option Addr) (n c : Nat) (l : List Int) (h : IS w w.heap.size A n c l) (hx : 10 < n) : Calls Tryd.prog 3 #[.slice A n c] w (TruePost w) := by
  have d1 : decide (10 < (n : Int)) = true := decide_eq_true (by omega)
  clear h hx
  go_enter Tryd.func3, Tryd.ntmps3
  go_wp2_with fail
  refine (awake10_any w hm).mono ?_
  rintro e w1 ⟨rfl, q1⟩
  have b2 := fun o => q1.alloc q1.size o
  go_wp2_with fail
  go_ret
  exact ⟨rfl, b2 _⟩
set_option maxRecDepth 100000 in
set_option maxHeartbeats 8000000 in
theorem confOrder_short (w : World) (hm : mlIs w) (A : Option Addr) (n c : Nat) (l : List Int) (h : IS w w.heap.size A n c l) (hx : n ≤ 10) : Calls Tryd.prog 3 #[.slice A n c] w (TruePost w) := by
  have hmp := hm.pos
  have hnl : n = l.length := h.1
  have d1 : decide (10 < (n : Int)) = false := decide_eq_false (by omega)
  have HM := Lib.hid hm
  have HNL := Lib.hid hnl
  have HX := Lib.hid hx
  have HI := Lib.hid h
  clear hnl hx h
  go_enter Tryd.func3, Tryd.ntmps3
  go_wp2_with fail
  refine (awake10_any w hm).mono ?_
  rintro e w1 ⟨rfl, q1⟩
  clear hm
  go_upto_region 4 with fail
  have O2 : (w1.alloc (.cells ordC 9)).heap[w1.heap.size]? = some (.cells ordC 9 (0, 0)) := heap_alloc_new w1 _
  have b2 : Below w.heap.size w (w1.alloc (.cells ordC 9)) := q1.alloc q1.size _
  have hwg := q1.size
  change Code.wp _ _ _ _ (w1.alloc (.cells ordC 9))
  generalize w1.alloc (.cells ordC 9) = w2 at O2 b2 ⊢
  obtain ⟨g, hg⟩ : ∃ g, w1.heap.size = g := ⟨_, rfl⟩
  rw [hg] at O2 hwg ⊢
  have HWG := Lib.hid hwg
  clear hg q1 hwg
  go_wp2_with fail
  go_loopw [4, 5, 6] (fun a b i wr => ∃ j : Nat, j ≤ n ∧ i = .int .i64 j ∧ a = .string (str (catN ((natO l).take j))) ∧ b = .string (str (catN ((natO l).take j).reverse)) ∧ okO l j ∧ Below w.heap.size w wr ∧ wr.heap[g]? = some (.cells ordC 9 (0, 0)))
    (fun _ _ i _ => n - (intOf i).toNat)
  case atStart => exact ⟨0, Nat.zero_le _, rfl, rfl, rfl, (fun _ h => by omega), b2, O2⟩
  case round =>
    clear b2 O2
    obtain ⟨j, hj, rfl, rfl, rfl, hok, b3, O3⟩ := hrel
    obtain ⟨wo, rfl⟩ : ∃ wo, wo = wr := ⟨_, rfl⟩
    have HOK := Lib.hid hok
    clear hok
    rcases Nat.lt_or_ge j n with hlt | hge
    · have hlti : decide ((j : Int) < (n : Int)) = true := decide_eq_true (by omega)
      have HLT := Lib.hid hlt
      have IS3 := HI.out.below b3
      obtain ⟨b, o, v, rfl, hb, hcv, hvl, hv1, hv2⟩ := IS3.at_ hlt
      have HVL := Lib.hid (show l.getD j 0 = v by simp [List.getD, hvl])
      have HJ := Lib.hid hj
      obtain ⟨TA, hTA⟩ : ∃ t, catN ((natO l).take j) = t := ⟨_, rfl⟩
      obtain ⟨TB, hTB⟩ : ∃ t, catN ((natO l).take j).reverse = t := ⟨_, rfl⟩
      have HTA := Lib.hid hTA
      have HTB := Lib.hid hTB
      rw [hTA, hTB]
      have IS' := Lib.hid IS3
      clear hj hlt hvl hTA hTB hcv IS3
      go_wp2_with fail
      go_loopw [7] (fun kk wq => ∃ k : Nat, k ≤ j ∧ kk = .int .i64 k ∧ (∀ q, q < k → l.getD q 0 ≠ v) ∧ Below w.heap.size w wq ∧ Below wo.heap.size wo wq) (fun kk _ => j - (intOf kk).toNat)
      case atStart => exact ⟨0, Nat.zero_le _, rfl, (fun _ h => by omega), b3, Below.refl _ _⟩
      case round =>
        obtain ⟨k, hk, rfl, hne, b4, r4⟩ := hrel
        have HNE := Lib.hid hne
        have IS4 := HI.out.below b4
        have O4 := below_at r4 O3 (heap_lt O3)
        clear hne b3
        have hnj : (0 : Int) ≤ (j : Int) ∧ (j : Int) < (n : Int) := by have := HLT.out; omega
        obtain ⟨b', o', v', e1, _, hcj, hvl, _, _⟩ := IS4.at_ HLT.out
        obtain ⟨rfl, rfl⟩ : b' = b ∧ o' = o := by injection e1 with e1; injection e1 with e1 e2; exact ⟨e1.symm, e2.symm⟩
        obtain rfl : v' = v := by have := HVL.out; simpa [List.getD, hvl] using this
        clear e1 hvl
        rcases Nat.lt_or_ge k j with hlk | hgk
        · have hlti2 : decide ((k : Int) < (j : Int)) = true := decide_eq_true (by omega)
          have hnk : (0 : Int) ≤ (k : Int) ∧ (k : Int) < (n : Int) := by omega
          obtain ⟨b2, o2, vk, e1, _, hck, hvk, _, _⟩ := IS4.at_ (show k < n by omega)
          obtain ⟨rfl, rfl⟩ : b2 = b' ∧ o2 = o' := by injection e1 with e1; injection e1 with e1 e2; exact ⟨e1.symm, e2.symm⟩
          have HVK := Lib.hid (show l.getD k 0 = vk by simp [List.getD, hvk])
          have k1 := Ext.cell (w := wr.drew) (M := fun _ => False) hck (fun h => h)
          have k2 := Ext.cell (w := wr.drew) (M := fun _ => False) hcj (fun h => h)
          have b5 : Below w.heap.size w wr.drew := b4.drew
          have r5 : Below wo.heap.size wo wr.drew := r4.drew
          have w64 : IntKind.i64.wrap ((k : Int) + 1) = (k : Int) + 1 := IntWalk.i64_in _ (by have := HX.out; omega)
          have HLK := Lib.hid hlk
          clear e1 hvk hck hcj IS4 b4 r4 O4 hlk hk
          go_upto_region 13 with fail
          refine rg_begin (fun _ => False) (by kernel_rfl) ?_
          refine rg_take (v := ?_) 0 rfl (by kernel_rfl) (by kernel_rfl) (by kernel_rfl) (fun _ _ _ h => h) (by rfl) ?_ ?_; rotate_left
          · (intro x hx; go_simp; first | done | with_reducible rfl | (rw [if_pos (by omega)]; try with_reducible rfl) | (rw [if_neg (by omega)]; try with_reducible rfl))
          try simp only [Act.put, List.setIfInBounds_toArray, List.set_cons_zero, List.set_cons_succ]
          refine rg_take (v := ?_) 1 rfl (by kernel_rfl) (by kernel_rfl) (by kernel_rfl) (fun _ _ _ h => h) (by rfl) ?_ ?_; rotate_left
          · (intro x hx; go_simp; first | done | with_reducible rfl | (rw [if_pos (by omega)]; try with_reducible rfl) | (rw [if_neg (by omega)]; try with_reducible rfl))
          try simp only [Act.put, List.setIfInBounds_toArray, List.set_cons_zero, List.set_cons_succ]
          refine rg_take (v := ?_) 2 rfl (by kernel_rfl) (by kernel_rfl) (by kernel_rfl) (fun _ _ _ h => h) (by rfl) ?_ ?_; rotate_left
          · (intro x hx; go_simp; first | done | with_reducible rfl | (rw [if_pos (by omega)]; try with_reducible rfl) | (rw [if_neg (by omega)]; try with_reducible rfl))
          try simp only [Act.put, List.setIfInBounds_toArray, List.set_cons_zero, List.set_cons_succ]
          refine rg_take (v := ?_) 3 rfl (by kernel_rfl) (by kernel_rfl) (by kernel_rfl) (fun _ _ _ h => h) (by rfl) ?_ ?_; rotate_left
          · (intro x hx; go_simp; first | done | with_reducible rfl | (rw [if_pos (by omega)]; try with_reducible rfl) | (rw [if_neg (by omega)]; try with_reducible rfl))
          try simp only [Act.put, List.setIfInBounds_toArray, List.set_cons_zero, List.set_cons_succ]
          refine rg_take (v := ?_) 4 rfl (by kernel_rfl) (by kernel_rfl) (by kernel_rfl) (fun _ _ _ h => h) (by rfl) ?_ ?_; rotate_left
          · (intro x hx; go_simp; first | done | with_reducible rfl | (rw [if_pos (by omega)]; try with_reducible rfl) | (rw [if_neg (by omega)]; try with_reducible rfl))
          try simp only [Act.put, List.setIfInBounds_toArray, List.set_cons_zero, List.set_cons_succ]
          refine rg_take (v := ?_) 5 rfl (by kernel_rfl) (by kernel_rfl) (by kernel_rfl) (fun _ _ _ h => h) (by rfl) ?_ ?_; rotate_left
          · (intro x hx; go_simp; first | done | with_reducible rfl | (rw [if_pos (by omega)]; try with_reducible rfl) | (rw [if_neg (by omega)]; try with_reducible rfl))
          try simp only [Act.put, List.setIfInBounds_toArray, List.set_cons_zero, List.set_cons_succ]
          refine rg_take (v := ?_) 6 rfl (by kernel_rfl) (by kernel_rfl) (by kernel_rfl) (fun _ _ _ h => h) (by rfl) ?_ ?_; rotate_left
          · (intro x hx; go_simp; first | done | with_reducible rfl | (rw [if_pos (by omega)]; try with_reducible rfl) | (rw [if_neg (by omega)]; try with_reducible rfl))
          try simp only [Act.put, List.setIfInBounds_toArray, List.set_cons_zero, List.set_cons_succ]
          refine rg_take (v := ?_) 7 rfl (by kernel_rfl) (by kernel_rfl) (by kernel_rfl) (fun _ _ _ h => h) (by rfl) ?_ ?_; rotate_left
          · (intro x hx; go_simp; first | done | with_reducible rfl | (rw [if_pos (by omega)]; try with_reducible rfl) | (rw [if_neg (by omega)]; try with_reducible rfl))
          try simp only [Act.put, List.setIfInBounds_toArray, List.set_cons_zero, List.set_cons_succ]
          refine rg_take (v := ?_) 8 rfl (by kernel_rfl) (by kernel_rfl) (by kernel_rfl) (fun _ _ _ h => h) (by rfl) ?_ ?_; rotate_left
          · (intro x hx; go_simp; first | done | with_reducible rfl | (rw [if_pos (by omega)]; try with_reducible rfl) | (rw [if_neg (by omega)]; try with_reducible rfl))
          try simp only [Act.put, List.setIfInBounds_toArray, List.set_cons_zero, List.set_cons_succ]
          refine rg_done (by kernel_rfl) ?_
          clear k1 k2
          generalize wr.drew = wz at b5 r5 ⊢
          by_cases hev : vk = v'
          · have e2 : (vk == v') = true := by simpa using hev
            go_wp2_with fail
            go_ret
            exact ⟨rfl, b5⟩
          · have e2 : (vk == v') = false := by simpa using hev
            have HNE2 := Lib.hid (show ∀ q, q < k + 1 → l.getD q 0 ≠ v' by
              intro q hq
              rcases Nat.lt_or_ge q k with h | h
              · exact HNE.out q h
              · obtain rfl : q = k := by omega
                rw [HVK.out]; exact hev)
            clear hev
            go_wp2_with fail
            go_roundw
            case rel => exact ⟨k + 1, by have := HLK.out; omega, by push_cast; rfl, HNE2.out, b5, r5⟩
            case measure => have := HLK.out; simp [intOf]; omega
        · obtain rfl : k = j := by omega
          have hlti2 : decide ((k : Int) < (k : Int)) = false := decide_eq_false (by omega)
          clear IS4
          rcases Int.lt_or_le v' 0 with h1 | h1
          · have e1 : decide (v' < 0) = true := decide_eq_true h1
            go_wp2_with fail
            go_ret
            exact ⟨rfl, b4⟩
          have e1 : decide (v' < 0) = false := decide_eq_false (by omega)
          rcases Int.lt_or_le 9 v' with h2 | h2
          · have e2 : decide (9 < v') = true := decide_eq_true h2
            go_wp2_with fail
            go_ret
            exact ⟨rfl, b4⟩
          have HOK2 := Lib.hid (show okO l (k + 1) by
            intro q hq
            rcases Nat.lt_or_ge q k with h | h
            · exact HOK.out q h
            · obtain rfl : q = k := by omega
              rw [HVL.out]
              exact ⟨h1, h2, HNE.out⟩)
          have HTK := Lib.hid (natO_take (l := l) (i := k) (by have := HLT.out; have := HNL.out; omega))
          obtain ⟨x, rfl⟩ := Int.eq_ofNat_of_zero_le h1
          have e2 : decide (9 < (x : Int)) = false := decide_eq_false (by omega)
          have hx : (0 : Int) ≤ (x : Int) ∧ (x : Int) < 10 := by omega
          have hcx := (cells_of O4).1 x
          rw [ordC_get x (by omega)] at hcx
          have hll := (good_O x (by omega)).2.2.2.2.2.1
          obtain ⟨Lx, hLx⟩ : ∃ l, lineO x = l := ⟨_, rfl⟩
          have HLX := Lib.hid hLx
          rw [hLx] at hcx hll
          have hTA : TA.length ≤ 270 := by
            rw [← HTA.out]
            have := len_catN _ (HOK.out.lt (by have := HLT.out; have := HNL.out; omega))
            have := HX.out
            have := HLT.out
            have := List.length_take_le k (natO l)
            omega
          have hTB : TB.length ≤ 270 := by
            rw [← HTB.out]
            have := len_catN ((natO l).take k).reverse (fun q hq => HOK.out.lt (by have := HLT.out; have := HNL.out; omega) q (List.mem_reverse.1 hq))
            have := HX.out
            have := HLT.out
            have := List.length_take_le k (natO l)
            rw [List.length_reverse] at *
            omega
          have a1 := str_add0 TA Lx (by omega) (by omega)
          have a2 : ∀ w, (Op.stringOp .add (str (TA ++ Lx)) ⟨#[10]⟩).run Tryd.prog w = .ok (.string (str (TA ++ Lx ++ [10]))) w := str_add0 (TA ++ Lx) [10] (by simp; omega) (by decide)
          have a3 : ∀ w, (Op.stringOp .add (str Lx) ⟨#[10]⟩).run Tryd.prog w = .ok (.string (str (Lx ++ [10]))) w := str_add0 Lx [10] (by omega) (by decide)
          have a4 := str_add0 (Lx ++ [10]) TB (by simp; omega) (by omega)
          obtain ⟨UA, hUA⟩ : ∃ u, TA ++ Lx ++ [10] = u := ⟨_, rfl⟩
          obtain ⟨UB, hUB⟩ : ∃ u, Lx ++ [10] ++ TB = u := ⟨_, rfl⟩
          rw [hUA] at a2
          rw [hUB] at a4
          have HUA := Lib.hid hUA
          have HUB := Lib.hid hUB
          have w64 : IntKind.i64.wrap ((k : Int) + 1) = (k : Int) + 1 := IntWalk.i64_in _ (by have := HX.out; omega)
          have HO4 := Lib.hid O4
          clear h1 h2 hLx hUA hUB hTA hTB hll O4 hk
          go_wp2_with fail
          go_roundw
          case rel =>
            refine ⟨k + 1, HLT.out, by push_cast; rfl, ?_, ?_, HOK2.out, b4, HO4.out⟩
            · rw [HTK.out, catN_append, HTA.out, HVL.out, Int.toNat_natCast, catN_one, HLX.out, ← HUA.out, List.append_assoc]
            · rw [HTK.out, List.reverse_append, List.reverse_singleton, List.singleton_append, ← List.singleton_append, catN_append, HTB.out, HVL.out, Int.toNat_natCast, catN_one, HLX.out, ← HUB.out]
          case measure => have := HLT.out; simp [intOf]; omega
    · obtain rfl : j = n := by omega
      have hlti : decide ((j : Int) < (j : Int)) = false := decide_eq_false (by omega)
      have hLn : (natO l).take j = natO l := by rw [List.take_of_length_le]; have := HNL.out; simp [natO]; omega
      have h10 := HOK.out.lt (by have := HNL.out; omega)
      have hnd := HOK.out.nodup (by have := HNL.out; omega)
      rw [hLn] at h10 hnd
      rw [hLn]
      have hnl : (natO l).length ≤ 10 := by have := HNL.out; have := HX.out; simp [natO]; omega
      have hp1 := fun w hm => order_parse w hm (natO l) h10 hnd hnl
      have hp2 := fun w hm => order_parse w hm (natO l).reverse (fun k hk => h10 k (List.mem_reverse.1 hk)) (List.pairwise_reverse.2 (hnd.imp fun h => Ne.symm h)) (by simpa using hnl)
      rw [cfL_rev] at hp2
      obtain ⟨TA, hTA⟩ : ∃ t, catN (natO l) = t := ⟨_, rfl⟩
      obtain ⟨TB, hTB⟩ : ∃ t, catN (natO l).reverse = t := ⟨_, rfl⟩
      obtain ⟨c0, hc0⟩ : ∃ c, cfL (natO l) = c := ⟨_, rfl⟩
      simp only [hTA, hc0] at hp1
      simp only [hTB, hc0] at hp2
      rw [hTA, hTB]
      have h2 := chkE_two c0
      obtain ⟨er, her⟩ : ∃ er, chkE c0 = er := ⟨_, rfl⟩
      rw [her] at hp1 hp2 h2
      obtain ⟨c1, hc1⟩ : ∃ c1, (if er = 0 then c0 else cf0) = c1 := ⟨_, rfl⟩
      rw [hc1] at hp1 hp2
      have HP1 := Lib.hid hp1
      have HP2 := Lib.hid hp2
      have m3 := HM.out.below b3 hmp
      have HER := Lib.hid h2
      clear hLn h10 hnd hnl hp1 hp2 hTA hTB hc0 her hc1 O3 hj h2
      go_wp2_with fail
      refine (HP1.out wo m3).mono ?_
      rintro e w4 ⟨rfl, q4⟩
      have b4 := b3.trans (q4.mono b3.size)
      have m4 := HM.out.below b4 hmp
      clear b3 m3 q4
      simp only
      go_upto_region 20 with ((with_reducible apply at_store_new 34); (case hx => exact rfl); (case hy => exact rfl); (case hg => first | rfl | simp); (case hi => kernel_rfl); (case hold => rfl); (case h1 => kernel_rfl))
      have C5 := heap_alloc_new w4 (.cells (cfC c1 nilS nilS) 34)
      have q5 : Below w4.heap.size w4 (w4.alloc (.cells (cfC c1 nilS nilS) 34)) := (Below.refl _ w4).alloc (Nat.le_refl _) _
      have b5 := b4.trans (q5.mono b4.size)
      obtain ⟨g1, hg1⟩ : ∃ g, w4.heap.size = g := ⟨_, rfl⟩
      rw [hg1] at C5 ⊢
      generalize w4.alloc (.cells (cfC c1 nilS nilS) 34) = w5 at C5 b5 ⊢
      have m5 := HM.out.below b5 hmp
      clear b4 m4 q5 hg1
      go_wp2_with fail
      refine (HP2.out w5 m5).mono ?_
      rintro e w6 ⟨rfl, q6⟩
      have C6 := below_at q6 C5 (heap_lt C5)
      have b6 := b5.trans (q6.mono b5.size)
      clear b5 m5 q6 C5
      simp only
      go_upto_region 21 with ((with_reducible apply at_store_new 34); (case hx => exact rfl); (case hy => exact rfl); (case hg => first | rfl | simp); (case hi => kernel_rfl); (case hold => rfl); (case h1 => kernel_rfl))
      have q7 : Below w6.heap.size w6 (w6.alloc (.cells (cfC c1 nilS nilS) 34)) := (Below.refl _ w6).alloc (Nat.le_refl _) _
      have C7 := below_at q7 C6 (heap_lt C6)
      have D7 := heap_alloc_new w6 (.cells (cfC c1 nilS nilS) 34)
      have b7 := b6.trans (q7.mono b6.size)
      obtain ⟨g2, hg2⟩ : ∃ g, w6.heap.size = g := ⟨_, rfl⟩
      rw [hg2] at D7 ⊢
      generalize w6.alloc (.cells (cfC c1 nilS nilS) 34) = w7 at C7 D7 b7 ⊢
      clear C6 b6 q7 hg2
      have r0 : Below w7.heap.size w7 w7.drew := (Below.refl _ _).drew
      have KC := Ext.at_ (M := fun _ => False) (w := w7.drew) C7 (fun h => h)
      have KD := Ext.at_ (M := fun _ => False) (w := w7.drew) D7 (fun h => h)
      rcases HER.out with rfl | rfl
      · refine rg_begin (fun _ => False) (by kernel_rfl) ?_
        refine rg_take (v := ?_) 0 rfl (by kernel_rfl) (by kernel_rfl) (by kernel_rfl) (fun _ _ _ h => h) (by rfl) ?_ ?_; rotate_left
        · (intro x hx; go_simp; first | done | with_reducible rfl | (rw [if_pos (by omega)]; try with_reducible rfl) | (rw [if_neg (by omega)]; try with_reducible rfl))
        try simp only [Act.put, List.setIfInBounds_toArray, List.set_cons_zero, List.set_cons_succ]
        refine rg_take (v := ?_) 1 rfl (by kernel_rfl) (by kernel_rfl) (by kernel_rfl) (fun _ _ _ h => h) (by rfl) ?_ ?_; rotate_left
        · (intro x hx; go_simp; first | done | with_reducible rfl | (rw [if_pos (by omega)]; try with_reducible rfl) | (rw [if_neg (by omega)]; try with_reducible rfl))
        try simp only [Act.put, List.setIfInBounds_toArray, List.set_cons_zero, List.set_cons_succ]
        refine rg_take (v := ?_) 2 rfl (by kernel_rfl) (by kernel_rfl) (by kernel_rfl) (fun _ _ _ h => h) (by rfl) ?_ ?_; rotate_left
        · (intro x hx; go_simp; first | done | with_reducible rfl | (rw [if_pos (by omega)]; try with_reducible rfl) | (rw [if_neg (by omega)]; try with_reducible rfl))
        try simp only [Act.put, List.setIfInBounds_toArray, List.set_cons_zero, List.set_cons_succ]
        refine rg_take (v := ?_) 3 rfl (by kernel_rfl) (by kernel_rfl) (by kernel_rfl) (fun _ _ _ h => h) (by rfl) ?_ ?_; rotate_left
        · (intro x hx; go_simp; first | done | with_reducible rfl | (rw [if_pos (by omega)]; try with_reducible rfl) | (rw [if_neg (by omega)]; try with_reducible rfl))
        try simp only [Act.put, List.setIfInBounds_toArray, List.set_cons_zero, List.set_cons_succ]
        refine rg_take (v := ?_) 4 rfl (by kernel_rfl) (by kernel_rfl) (by kernel_rfl) (fun _ _ _ h => h) (by rfl) ?_ ?_; rotate_left
        · (intro x hx; go_simp; first | done | with_reducible rfl | (rw [if_pos (by omega)]; try with_reducible rfl) | (rw [if_neg (by omega)]; try with_reducible rfl))
        try simp only [Act.put, List.setIfInBounds_toArray, List.set_cons_zero, List.set_cons_succ]
        refine rg_take (v := ?_) 5 rfl (by kernel_rfl) (by kernel_rfl) (by kernel_rfl) (fun _ _ _ h => h) (by rfl) ?_ ?_; rotate_left
        · (intro x hx; go_simp; first | done | with_reducible rfl | (rw [if_pos (by omega)]; try with_reducible rfl) | (rw [if_neg (by omega)]; try with_reducible rfl))
        try simp only [Act.put, List.setIfInBounds_toArray, List.set_cons_zero, List.set_cons_succ]
        refine rg_take (v := ?_) 6 rfl (by kernel_rfl) (by kernel_rfl) (by kernel_rfl) (fun _ _ _ h => h) (by rfl) ?_ ?_; rotate_left
        · (intro x hx; go_simp; first | done | with_reducible rfl | (rw [if_pos (by omega)]; try with_reducible rfl) | (rw [if_neg (by omega)]; try with_reducible rfl))
        try simp only [Act.put, List.setIfInBounds_toArray, List.set_cons_zero, List.set_cons_succ]
        refine rg_skip 7 rfl (by kernel_rfl) (by kernel_rfl) (by kernel_rfl) (fun _ _ _ h => h) (by rfl) ?_; simp only [Act.put, List.setIfInBounds_toArray, List.set_cons_zero, List.set_cons_succ]
        refine rg_skip 8 rfl (by kernel_rfl) (by kernel_rfl) (by kernel_rfl) (fun _ _ _ h => h) (by rfl) ?_; simp only [Act.put, List.setIfInBounds_toArray, List.set_cons_zero, List.set_cons_succ]
        refine rg_take (v := ?_) 9 rfl (by kernel_rfl) (by kernel_rfl) (by kernel_rfl) (fun _ _ _ h => h) (by rfl) ?_ ?_; rotate_left
        · (intro x hx; go_simp; first | done | with_reducible rfl | (rw [if_pos (by omega)]; try with_reducible rfl) | (rw [if_neg (by omega)]; try with_reducible rfl))
        try simp only [Act.put, List.setIfInBounds_toArray, List.set_cons_zero, List.set_cons_succ]
        refine rg_take (v := ?_) 10 rfl (by kernel_rfl) (by kernel_rfl) (by kernel_rfl) (fun _ _ _ h => h) (by rfl) ?_ ?_; rotate_left
        · (intro x hx; go_simp; first | done | with_reducible rfl | (rw [if_pos (by omega)]; try with_reducible rfl) | (rw [if_neg (by omega)]; try with_reducible rfl))
        try simp only [Act.put, List.setIfInBounds_toArray, List.set_cons_zero, List.set_cons_succ]
        refine rg_take (v := ?_) 11 rfl (by kernel_rfl) (by kernel_rfl) (by kernel_rfl) (fun _ _ _ h => h) (by rfl) ?_ ?_; rotate_left
        · (intro x hx; go_simp; first | done | with_reducible rfl | (rw [if_pos (by omega)]; try with_reducible rfl) | (rw [if_neg (by omega)]; try with_reducible rfl))
        try simp only [Act.put, List.setIfInBounds_toArray, List.set_cons_zero, List.set_cons_succ]
        refine rg_take (v := ?_) 12 rfl (by kernel_rfl) (by kernel_rfl) (by kernel_rfl) (fun _ _ _ h => h) (by rfl) ?_ ?_; rotate_left
        · (intro x hx; go_simp; first | done | with_reducible rfl | (rw [if_pos (by omega)]; try with_reducible rfl) | (rw [if_neg (by omega)]; try with_reducible rfl))
        try simp only [Act.put, List.setIfInBounds_toArray, List.set_cons_zero, List.set_cons_succ]
        refine rg_take (v := ?_) 13 rfl (by kernel_rfl) (by kernel_rfl) (by kernel_rfl) (fun _ _ _ h => h) (by rfl) ?_ ?_; rotate_left
        · (intro x hx; go_simp; first | done | with_reducible rfl | (rw [if_pos (by omega)]; try with_reducible rfl) | (rw [if_neg (by omega)]; try with_reducible rfl))
        try simp only [Act.put, List.setIfInBounds_toArray, List.set_cons_zero, List.set_cons_succ]
        refine rg_take (v := ?_) 14 rfl (by kernel_rfl) (by kernel_rfl) (by kernel_rfl) (fun _ _ _ h => h) (by rfl) ?_ ?_; rotate_left
        · (intro x hx; go_simp; first | done | with_reducible rfl | (rw [if_pos (by omega)]; try with_reducible rfl) | (rw [if_neg (by omega)]; try with_reducible rfl))
        try simp only [Act.put, List.setIfInBounds_toArray, List.set_cons_zero, List.set_cons_succ]
        refine rg_take (v := .agg (cfC c1 nilS nilS)) 15 rfl (by kernel_rfl) (by kernel_rfl) (by kernel_rfl) (fun _ _ _ h => h) (by rfl) ?_ ?_
        · (intro x hx; apply run_load_big; (case ho => exact rfl); (case hv => exact rfl); (case hg => exact KC x hx); (case hu => exact Tryd.underlying34); (case hd => rfl); (case hi => kernel_rfl))
        try simp only [Act.put, List.setIfInBounds_toArray, List.set_cons_zero, List.set_cons_succ]
        refine rg_take (v := .agg (cfC c1 nilS nilS)) 17 rfl (by kernel_rfl) (by kernel_rfl) (by kernel_rfl) (fun _ _ _ h => h) (by rfl) ?_ ?_
        · (intro x hx; apply run_load_big; (case ho => exact rfl); (case hv => exact rfl); (case hg => exact KD x hx); (case hu => exact Tryd.underlying34); (case hd => rfl); (case hi => kernel_rfl))
        try simp only [Act.put, List.setIfInBounds_toArray, List.set_cons_zero, List.set_cons_succ]
        refine rg_step 16 rfl (by kernel_rfl) (by rfl) (fun K hK => ?_)
        go_simp
        refine (own_any _ c1).mono ?_
        rintro e u1 ⟨rfl, p1⟩
        replace r0 := r0.trans (p1.mono r0.size)
        have KC := Ext.at_ (M := fun _ => False) (w := u1) (below_at r0 C7 (heap_lt C7)) (fun h => h)
        have KD := Ext.at_ (M := fun _ => False) (w := u1) (below_at r0 D7 (heap_lt D7)) (fun h => h)
        refine hK.out _ _ (Ext.below_all _ p1) ?_
        clear hK K; try simp only [Act.put, List.setIfInBounds_toArray, List.set_cons_zero, List.set_cons_succ]
        refine rg_step 18 rfl (by kernel_rfl) (by rfl) (fun K hK => ?_)
        go_simp
        refine (own_any _ c1).mono ?_
        rintro e u1 ⟨rfl, p1⟩
        replace r0 := r0.trans (p1.mono r0.size)
        refine hK.out _ _ (Ext.below_all _ p1) ?_
        clear hK K; try simp only [Act.put, List.setIfInBounds_toArray, List.set_cons_zero, List.set_cons_succ]
        refine rg_step 19 rfl (by kernel_rfl) (by rfl) (fun K hK => ?_)
        go_simp
        refine (same_self _ c1).mono ?_
        rintro e u1 ⟨rfl, p1⟩
        replace r0 := r0.trans (p1.mono r0.size)
        refine hK.out _ _ (Ext.below_all _ p1) ?_
        clear hK K; try simp only [Act.put, List.setIfInBounds_toArray, List.set_cons_zero, List.set_cons_succ]
        refine rg_take (v := ?_) 20 rfl (by kernel_rfl) (by kernel_rfl) (by kernel_rfl) (fun _ _ _ h => h) (by rfl) ?_ ?_; rotate_left
        · (intro x hx; go_simp; first | done | with_reducible rfl | (rw [if_pos (by omega)]; try with_reducible rfl) | (rw [if_neg (by omega)]; try with_reducible rfl))
        try simp only [Act.put, List.setIfInBounds_toArray, List.set_cons_zero, List.set_cons_succ]
        refine rg_take (v := ?_) 21 rfl (by kernel_rfl) (by kernel_rfl) (by kernel_rfl) (fun _ _ _ h => h) (by rfl) ?_ ?_; rotate_left
        · (intro x hx; go_simp; first | done | with_reducible rfl | (rw [if_pos (by omega)]; try with_reducible rfl) | (rw [if_neg (by omega)]; try with_reducible rfl))
        try simp only [Act.put, List.setIfInBounds_toArray, List.set_cons_zero, List.set_cons_succ]
        refine rg_take (v := ?_) 22 rfl (by kernel_rfl) (by kernel_rfl) (by kernel_rfl) (fun _ _ _ h => h) (by rfl) ?_ ?_; rotate_left
        · (intro x hx; go_simp; first | done | with_reducible rfl | (rw [if_pos (by omega)]; try with_reducible rfl) | (rw [if_neg (by omega)]; try with_reducible rfl))
        try simp only [Act.put, List.setIfInBounds_toArray, List.set_cons_zero, List.set_cons_succ]
        refine rg_done (by kernel_rfl) ?_
        go_wp2_with fail
        go_ret
        exact ⟨rfl, b7.trans (r0.mono b7.size)⟩
      · refine rg_begin (fun _ => False) (by kernel_rfl) ?_
        refine rg_take (v := ?_) 0 rfl (by kernel_rfl) (by kernel_rfl) (by kernel_rfl) (fun _ _ _ h => h) (by rfl) ?_ ?_; rotate_left
        · (intro x hx; go_simp; first | done | with_reducible rfl | (rw [if_pos (by omega)]; try with_reducible rfl) | (rw [if_neg (by omega)]; try with_reducible rfl))
        try simp only [Act.put, List.setIfInBounds_toArray, List.set_cons_zero, List.set_cons_succ]
        refine rg_take (v := ?_) 1 rfl (by kernel_rfl) (by kernel_rfl) (by kernel_rfl) (fun _ _ _ h => h) (by rfl) ?_ ?_; rotate_left
        · (intro x hx; go_simp; first | done | with_reducible rfl | (rw [if_pos (by omega)]; try with_reducible rfl) | (rw [if_neg (by omega)]; try with_reducible rfl))
        try simp only [Act.put, List.setIfInBounds_toArray, List.set_cons_zero, List.set_cons_succ]
        refine rg_take (v := ?_) 2 rfl (by kernel_rfl) (by kernel_rfl) (by kernel_rfl) (fun _ _ _ h => h) (by rfl) ?_ ?_; rotate_left
        · (intro x hx; go_simp; first | done | with_reducible rfl | (rw [if_pos (by omega)]; try with_reducible rfl) | (rw [if_neg (by omega)]; try with_reducible rfl))
        try simp only [Act.put, List.setIfInBounds_toArray, List.set_cons_zero, List.set_cons_succ]
        refine rg_take (v := ?_) 3 rfl (by kernel_rfl) (by kernel_rfl) (by kernel_rfl) (fun _ _ _ h => h) (by rfl) ?_ ?_; rotate_left
        · (intro x hx; go_simp; first | done | with_reducible rfl | (rw [if_pos (by omega)]; try with_reducible rfl) | (rw [if_neg (by omega)]; try with_reducible rfl))
        try simp only [Act.put, List.setIfInBounds_toArray, List.set_cons_zero, List.set_cons_succ]
        refine rg_take (v := ?_) 4 rfl (by kernel_rfl) (by kernel_rfl) (by kernel_rfl) (fun _ _ _ h => h) (by rfl) ?_ ?_; rotate_left
        · (intro x hx; go_simp; first | done | with_reducible rfl | (rw [if_pos (by omega)]; try with_reducible rfl) | (rw [if_neg (by omega)]; try with_reducible rfl))
        try simp only [Act.put, List.setIfInBounds_toArray, List.set_cons_zero, List.set_cons_succ]
        refine rg_take (v := ?_) 5 rfl (by kernel_rfl) (by kernel_rfl) (by kernel_rfl) (fun _ _ _ h => h) (by rfl) ?_ ?_; rotate_left
        · (intro x hx; go_simp; first | done | with_reducible rfl | (rw [if_pos (by omega)]; try with_reducible rfl) | (rw [if_neg (by omega)]; try with_reducible rfl))
        try simp only [Act.put, List.setIfInBounds_toArray, List.set_cons_zero, List.set_cons_succ]
        refine rg_take (v := ?_) 6 rfl (by kernel_rfl) (by kernel_rfl) (by kernel_rfl) (fun _ _ _ h => h) (by rfl) ?_ ?_; rotate_left
        · (intro x hx; go_simp; first | done | with_reducible rfl | (rw [if_pos (by omega)]; try with_reducible rfl) | (rw [if_neg (by omega)]; try with_reducible rfl))
        try simp only [Act.put, List.setIfInBounds_toArray, List.set_cons_zero, List.set_cons_succ]
        refine rg_take (v := ?_) 7 rfl (by kernel_rfl) (by kernel_rfl) (by kernel_rfl) (fun _ _ _ h => h) (by rfl) ?_ ?_; rotate_left
        · (intro x hx; go_simp; first | done | with_reducible rfl | (rw [if_pos (by omega)]; try with_reducible rfl) | (rw [if_neg (by omega)]; try with_reducible rfl))
        try simp only [Act.put, List.setIfInBounds_toArray, List.set_cons_zero, List.set_cons_succ]
        refine rg_take (v := ?_) 8 rfl (by kernel_rfl) (by kernel_rfl) (by kernel_rfl) (fun _ _ _ h => h) (by rfl) ?_ ?_; rotate_left
        · (intro x hx; go_simp; first | done | with_reducible rfl | (rw [if_pos (by omega)]; try with_reducible rfl) | (rw [if_neg (by omega)]; try with_reducible rfl))
        try simp only [Act.put, List.setIfInBounds_toArray, List.set_cons_zero, List.set_cons_succ]
        refine rg_take (v := ?_) 9 rfl (by kernel_rfl) (by kernel_rfl) (by kernel_rfl) (fun _ _ _ h => h) (by rfl) ?_ ?_; rotate_left
        · (intro x hx; go_simp; first | done | with_reducible rfl | (rw [if_pos (by omega)]; try with_reducible rfl) | (rw [if_neg (by omega)]; try with_reducible rfl))
        try simp only [Act.put, List.setIfInBounds_toArray, List.set_cons_zero, List.set_cons_succ]
        refine rg_take (v := ?_) 10 rfl (by kernel_rfl) (by kernel_rfl) (by kernel_rfl) (fun _ _ _ h => h) (by rfl) ?_ ?_; rotate_left
        · (intro x hx; go_simp; first | done | with_reducible rfl | (rw [if_pos (by omega)]; try with_reducible rfl) | (rw [if_neg (by omega)]; try with_reducible rfl))
        try simp only [Act.put, List.setIfInBounds_toArray, List.set_cons_zero, List.set_cons_succ]
        refine rg_take (v := ?_) 11 rfl (by kernel_rfl) (by kernel_rfl) (by kernel_rfl) (fun _ _ _ h => h) (by rfl) ?_ ?_; rotate_left
        · (intro x hx; go_simp; first | done | with_reducible rfl | (rw [if_pos (by omega)]; try with_reducible rfl) | (rw [if_neg (by omega)]; try with_reducible rfl))
        try simp only [Act.put, List.setIfInBounds_toArray, List.set_cons_zero, List.set_cons_succ]
        refine rg_take (v := ?_) 12 rfl (by kernel_rfl) (by kernel_rfl) (by kernel_rfl) (fun _ _ _ h => h) (by rfl) ?_ ?_; rotate_left
        · (intro x hx; go_simp; first | done | with_reducible rfl | (rw [if_pos (by omega)]; try with_reducible rfl) | (rw [if_neg (by omega)]; try with_reducible rfl))
        try simp only [Act.put, List.setIfInBounds_toArray, List.set_cons_zero, List.set_cons_succ]
        refine rg_take (v := ?_) 13 rfl (by kernel_rfl) (by kernel_rfl) (by kernel_rfl) (fun _ _ _ h => h) (by rfl) ?_ ?_; rotate_left
        · (intro x hx; go_simp; first | done | with_reducible rfl | (rw [if_pos (by omega)]; try with_reducible rfl) | (rw [if_neg (by omega)]; try with_reducible rfl))
        try simp only [Act.put, List.setIfInBounds_toArray, List.set_cons_zero, List.set_cons_succ]
        refine rg_take (v := ?_) 14 rfl (by kernel_rfl) (by kernel_rfl) (by kernel_rfl) (fun _ _ _ h => h) (by rfl) ?_ ?_; rotate_left
        · (intro x hx; go_simp; first | done | with_reducible rfl | (rw [if_pos (by omega)]; try with_reducible rfl) | (rw [if_neg (by omega)]; try with_reducible rfl))
        try simp only [Act.put, List.setIfInBounds_toArray, List.set_cons_zero, List.set_cons_succ]
        refine rg_skip 15 rfl (by kernel_rfl) (by kernel_rfl) (by kernel_rfl) (fun _ _ _ h => h) (by rfl) ?_; simp only [Act.put, List.setIfInBounds_toArray, List.set_cons_zero, List.set_cons_succ]
        refine rg_skip 16 rfl (by kernel_rfl) (by kernel_rfl) (by kernel_rfl) (fun _ _ _ h => h) (by rfl) ?_; simp only [Act.put, List.setIfInBounds_toArray, List.set_cons_zero, List.set_cons_succ]
        refine rg_skip 17 rfl (by kernel_rfl) (by kernel_rfl) (by kernel_rfl) (fun _ _ _ h => h) (by rfl) ?_; simp only [Act.put, List.setIfInBounds_toArray, List.set_cons_zero, List.set_cons_succ]
        refine rg_skip 18 rfl (by kernel_rfl) (by kernel_rfl) (by kernel_rfl) (fun _ _ _ h => h) (by rfl) ?_; simp only [Act.put, List.setIfInBounds_toArray, List.set_cons_zero, List.set_cons_succ]
        refine rg_skip 19 rfl (by kernel_rfl) (by kernel_rfl) (by kernel_rfl) (fun _ _ _ h => h) (by rfl) ?_; simp only [Act.put, List.setIfInBounds_toArray, List.set_cons_zero, List.set_cons_succ]
        refine rg_take (v := ?_) 20 rfl (by kernel_rfl) (by kernel_rfl) (by kernel_rfl) (fun _ _ _ h => h) (by rfl) ?_ ?_; rotate_left
        · (intro x hx; go_simp; first | done | with_reducible rfl | (rw [if_pos (by omega)]; try with_reducible rfl) | (rw [if_neg (by omega)]; try with_reducible rfl))
        try simp only [Act.put, List.setIfInBounds_toArray, List.set_cons_zero, List.set_cons_succ]
        refine rg_take (v := ?_) 21 rfl (by kernel_rfl) (by kernel_rfl) (by kernel_rfl) (fun _ _ _ h => h) (by rfl) ?_ ?_; rotate_left
        · (intro x hx; go_simp; first | done | with_reducible rfl | (rw [if_pos (by omega)]; try with_reducible rfl) | (rw [if_neg (by omega)]; try with_reducible rfl))
        try simp only [Act.put, List.setIfInBounds_toArray, List.set_cons_zero, List.set_cons_succ]
        refine rg_take (v := ?_) 22 rfl (by kernel_rfl) (by kernel_rfl) (by kernel_rfl) (fun _ _ _ h => h) (by rfl) ?_ ?_; rotate_left
        · (intro x hx; go_simp; first | done | with_reducible rfl | (rw [if_pos (by omega)]; try with_reducible rfl) | (rw [if_neg (by omega)]; try with_reducible rfl))
        try simp only [Act.put, List.setIfInBounds_toArray, List.set_cons_zero, List.set_cons_succ]
        refine rg_done (by kernel_rfl) ?_
        go_wp2_with fail
        go_ret
        exact ⟨rfl, b7.trans (r0.mono b7.size)⟩
theorem confOrder_any (w : World) (hm : mlIs w) (A : Option Addr) (n c : Nat) (l : List Int) (h : IS w w.heap.size A n c l) :
    Calls Tryd.prog 3 #[.slice A n c] w (TruePost w) := by
  rcases Nat.lt_or_ge 10 n with hx | hx
  · exact confOrder_long w hm A n c l h hx
  · exact confOrder_short w hm A n c l h hx
end Go.Proofs.YtnmdiageigbphaaDoor
