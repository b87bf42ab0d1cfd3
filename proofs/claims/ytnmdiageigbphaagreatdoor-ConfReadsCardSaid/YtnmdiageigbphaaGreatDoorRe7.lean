/-
  The reference's Parse: its walk.
-/
import Derived.Test.YtnmdiageigbphaaGreatDoorRe3
import Derived.Test.YtnmdiageigbphaaGreatDoorRv4
import Derived.Test.YtnmdiageigbphaaGreatDoorRp2
import Derived.Test.YtnmdiageigbphaaGreatDoorKq15
namespace Go.Proofs.YtnmdiageigbphaaGreatDoor
open Go.RowKit

section
variable {w w' : World} {H H2 g n2 c2 : Nat} {C : Cg} {A2 : Option Addr} {l : List (List UInt8)}
theorem RC.below (h : RC w H g C) (hb : Below w.heap.size w w') : RC w' H g C := by
  obtain ⟨A, n, k, A2, n2, k2, P, F, O⟩ := h
  exact ⟨A, n, k, A2, n2, k2, below_at hb P (heap_lt P), F.below hb, O.below hb⟩
theorem RC.lt (h : RC w H g C) : g < w.heap.size := by
  obtain ⟨_, _, _, _, _, _, P, _⟩ := h
  exact heap_lt P
theorem SO.keepG (h : SO w H2 A2 n2 c2 l) (hc : RC w H g C) (hx : Ext (fun j => j = g) w w') : SO w' H2 A2 n2 c2 l := by
  obtain ⟨_, _, _, _, _, _, P, _⟩ := hc
  have h' : TO w H2 9 1 A2 n2 c2 l.length (sv l) := ⟨h.1, h.2⟩
  have hne := own_ne_b h' P (by decide)
  have := h'.ext hx (fun j hj e => hne (by rw [hj, e]))
  exact ⟨this.1, this.2⟩
theorem SO.keepB (h : SO w H2 A2 n2 c2 l) (hb : Below w.heap.size w w') : SO w' H2 A2 n2 c2 l := by
  have h' : TO w H2 9 1 A2 n2 c2 l.length (sv l) := ⟨h.1, h.2⟩
  have := h'.below hb
  exact ⟨this.1, this.2⟩
theorem RC.seen (h : RC w H g C) (ho : SO w H2 A2 n2 c2 l) (hg : w.grownBy w' (Value.slice A2 n2 c2).ownBlock) : RC w' H g C := by
  obtain ⟨A, n, k, A3, n3, k3, P, F, O⟩ := h
  have ho' : TO w H2 9 1 A2 n2 c2 l.length (sv l) := ⟨ho.1, ho.2⟩
  have hx := Ext.of_grown (M := fun j => (Value.slice A2 n2 c2).ownBlock = some j) hg (fun k hk => hk)
  have hP := own_ne_b ho' P (by decide)
  exact ⟨A, n, k, A3, n3, k3, (hx.block g (heap_lt P) hP).trans P, F.ext hx (F.apart ho' (by decide)), O.ext hx (O.apart ho' (by decide))⟩
end
theorem setG_len (C : Cg) (nm : List UInt8) (vs : List Vl) : (setG C nm vs).lf.length ≤ C.lf.length + 1 ∧ (setG C nm vs).lo.length ≤ C.lo.length + 1 := by
  unfold setG
  split <;> simp
section
variable {C : Cg} {S : List (List UInt8)} {x : List UInt8}
theorem rl_quiet (h : trimR x = [] ∨ (trimR x).getD 0 0 = 35) : lineG C S x = (0, C, S) := by rw [← ref_line, refLine, if_pos h]
theorem rl_no (h : ¬ (trimR x = [] ∨ (trimR x).getD 0 0 = 35)) (h2 : (61 : UInt8) ∉ trimR x) : lineG C S x = (9, C, S) := by rw [← ref_line, refLine, if_neg h, if_pos h2]
theorem no61 {m : List UInt8} (h : ∀ i, i < m.length → m.getD i 0 ≠ 61) : (61 : UInt8) ∉ m := fun hm => by
  obtain ⟨i, hi⟩ := List.mem_iff_getElem?.1 hm
  exact h i (List.getElem?_eq_some_iff.1 hi).1 (by rw [List.getD, hi]; rfl)
def rlV (C : Cg) (S : List (List UInt8)) (nm z : List UInt8) : Int × Cg × List (List UInt8) :=
  match refVal nm z with
  | none => (9, C, S)
  | some vs => if nm ∈ S ∧ nm ≠ nFixed ∧ nm ≠ nOpen then (8, C, S) else (0, setG C nm vs, nm :: S)
theorem rl_val {m : List UInt8} {j : Nat} (hm : trimR x = m) (h : ¬ (m = [] ∨ m.getD 0 0 = 35)) (hj : j < m.length) (hc : m.getD j 0 = 61) (hno : ∀ i, i < j → m.getD i 0 ≠ 61) : lineG C S x = rlV C S (trimR (m.take j)) (trimR (m.drop (j + 1))) := by
  have e : m.take j ++ 61 :: m.drop (j + 1) = m := by
    have := drop_get m j hj
    rw [hc] at this
    rw [← this, List.take_append_drop]
  have hmem : (61 : UInt8) ∈ m := List.mem_iff_getElem?.2 ⟨j, by rw [getD_some 0 hj, hc]⟩
  have hc2 : cutE 61 m = (m.take j, m.drop (j + 1), true) := (congrArg (cutE 61) e.symm).trans (cutE_app 61 _ _ (fun y hy => by
    obtain ⟨i, hi⟩ := List.mem_iff_getElem?.1 hy
    have hl := (List.getElem?_eq_some_iff.1 hi).1
    have hl2 : i < j := by simp at hl; omega
    have : m.getD i 0 = y := by rw [List.getD, ← List.getElem?_take_of_lt hl2, hi]; rfl
    rw [← this]
    exact hno i hl2))
  rw [← ref_line, refLine, hm, if_neg h, if_neg (fun hn => hn hmem), hc2]
  rfl
variable {L : List (List UInt8)} {i : Nat} {r : Int × Nat × Cg × List (List UInt8)} {C1 : Cg} {S1 : List (List UInt8)} {e : Int}
theorem go_ok (hst : r = if (lineG C S x).1 = 0 then goG (lineG C S x).2.1 (lineG C S x).2.2 (i + 1) (L.drop (i + 1)) else ((lineG C S x).1, i + 1, C, S)) (he : lineG C S x = (0, C1, S1)) : goG C1 S1 (i + 1) (L.drop (i + 1)) = r := by
  rw [he] at hst
  exact (hst.trans (if_pos rfl)).symm
theorem go_bad (hst : r = if (lineG C S x).1 = 0 then goG (lineG C S x).2.1 (lineG C S x).2.2 (i + 1) (L.drop (i + 1)) else ((lineG C S x).1, i + 1, C, S)) (he : lineG C S x = (e, C1, S1)) (h0 : e ≠ 0) : resR r = (zG, ((i : Int) + 1), e) := by
  rw [he] at hst
  rw [hst.trans (if_neg h0), resR, if_neg h0]
  rfl
end
theorem rendsG_c (C : Cg) (S : List (List UInt8)) : rendsG C S = ⟨rendsV C.c S, C.lf, C.lo⟩ := rfl
set_option maxRecDepth 100000 in
set_option maxHeartbeats 32000000 in
theorem rparse_in (w : World) (t : List UInt8) (hl : t.length ≤ 16384) (hn : (linesV t).length ≤ 400) (r : Int × Nat × Cg × List (List UInt8)) (hr : goG usG [] 0 (linesV t) = r) :
    Calls Tryz.prog 9 #[.string (str t)] w (ParseGP w (resR r)) := by
  have R0 := heap_alloc_new w (.cells cfZ 40)
  have b0 : Below w.heap.size w (w.alloc (.cells cfZ 40)) := (Below.refl _ w).alloc (Nat.le_refl _) _
  have hts : (str t).size = t.length := rfl
  have hd1 : decide (16384 < (t.length : Int)) = false := decide_eq_false (by omega)
  have hli := fun w => rlines_any w t (by omega)
  unfold LinesP at hli
  have hx := fun x hx => Nat.le_trans (lines_len (t := t) x hx) hl
  obtain ⟨L, hL⟩ : ∃ L, linesV t = L := ⟨_, rfl⟩
  rw [hL] at hn hr hx
  simp only [hL] at hli
  go_enter Tryz.func9, Tryz.ntmps9
  go_upto_region 1 with fail
  change Code.wp _ _ _ _ (w.alloc (.cells cfZ 40))
  generalize w.alloc (.cells cfZ 40) = w0 at R0 b0 ⊢
  obtain ⟨g0, hg0⟩ : ∃ g, w.heap.size = g := ⟨_, rfl⟩
  rw [hg0] at R0 b0 ⊢
  have HG0 := Lib.hid hg0
  have hz0 := heap_lt R0
  clear hg0 hL hl
  go_wp2_with fail
  refine (hli w0).mono ?_
  rintro e w1 ⟨A, n, cc, rfl, hnL, hnc, hrow, q1⟩
  have R1 := below_at q1 R0 hz0
  have b1 := b0.trans (q1.mono (by omega))
  have hz1 := q1.size
  have hd2 : decide (400 < (n : Int)) = false := decide_eq_false (by omega)
  have HNL := Lib.hid hnL
  have HN := Lib.hid hn
  clear hli R0 b0 q1 hnL hn hnc
  go_wp2_with fail
  refine (usual10_any w1).mono ?_
  rw [← usC_eq]
  rintro e w2 ⟨rfl, q2⟩
  have R2 := below_at q2 R1 (by omega)
  have b2 := b1.trans (q2.mono (by omega))
  have row2 := hrow.below q2
  have hz2 := q2.size
  clear R1 b1 q2 hrow
  go_upto_region 7 with ((with_reducible apply at_store_new 40); (case hx => exact rfl); (case hy => exact rfl); (case hg => first | rfl | simp); (case hi => kernel_rfl); (case hold => rfl); (case h1 => kernel_rfl))
  have P3 := heap_alloc_new w2 (.cells (cfC usC nilS nilS) 40)
  have q3 : Below w2.heap.size w2 (w2.alloc (.cells (cfC usC nilS nilS) 40)) := (Below.refl _ w2).alloc (Nat.le_refl _) _
  obtain ⟨g, hg⟩ : ∃ g, w2.heap.size = g := ⟨_, rfl⟩
  obtain ⟨B, hBB⟩ : ∃ B, w1.heap.size = B := ⟨_, rfl⟩
  rw [hg] at P3 q3 ⊢
  rw [hBB] at row2
  generalize w2.alloc (.cells (cfC usC nilS nilS) 40) = w3 at P3 q3 ⊢
  have HZ := Lib.hid (show g0 < g ∧ B ≤ g by omega)
  have HX := Lib.hid hx
  have HR2 := Lib.hid R2
  have HB2 := Lib.hid b2
  have HROW := Lib.hid row2
  clear R2 b2 row2 hz0 hz1 hz2 hg hBB hx hd1
  go_wp2_with fail
  go_loopw [7, 8] (fun vs v wr => ∃ (i : Nat) (C : Cg) (S Sx : List (List UInt8)) (A2 : Option Addr) (n2 k2 : Nat), vs = .slice A2 n2 k2 ∧ v = .int .i64 i ∧ i ≤ n ∧ goG C S i (L.drop i) = r ∧ RC wr g g C ∧ SO wr g A2 n2 k2 Sx ∧ (∀ x, x ∈ Sx ↔ x ∈ S) ∧ n2 ≤ i ∧ C.lf.length ≤ i ∧ C.lo.length ≤ i ∧ wfG C ∧ Below g w2 wr)
    (fun _ v _ => n - (intOf v).toNat)
  case atStart => exact ⟨0, usG, [], [], none, 0, 0, rfl, rfl, Nat.zero_le _, hr, ⟨none, 0, 0, none, 0, 0, P3, TO.nil_ _ _ _ _, TO.nil_ _ _ _ _⟩, ⟨rfl, World.ownsRow_nil _ _ _ _⟩, fun _ => Iff.rfl, Nat.le_refl _, Nat.le_refl _, Nat.le_refl _, (fun _ h => by cases h), q3⟩
  case round =>
    clear hr P3 q3
    obtain ⟨i, C, S, Sx, A2, n2, k2, rfl, rfl, hi, hgo, hRC, hSO, hmem, hn2, hlf, hlo, hwf, b⟩ := hrel
    have R := below_at b HR2.out HZ.out.1
    have hgr := hRC.lt
    have hb4 : g0 ≤ wr.heap.size := by have := heap_lt R; omega
    have HB4 := Lib.hid (HB2.out.trans (b.mono (Nat.le_of_lt HZ.out.1)))
    have row4 := HROW.out.below (b.mono HZ.out.2)
    have HGO := Lib.hid hgo
    have HRC := Lib.hid hRC
    have HSO := Lib.hid hSO
    have HMEM := Lib.hid hmem
    have HLN := Lib.hid (⟨hn2, hlf, hlo⟩ : _ ∧ _ ∧ _)
    have HWF := Lib.hid hwf
    have HBG := Lib.hid b
    clear hgo hRC hSO hmem hn2 hlf hlo hwf b
    by_cases hlt : i < n
    · have hstep := goG_step (L := L) (i := i) (by have := HNL.out; omega) C S
      rw [HGO.out] at hstep
      obtain ⟨bb, o, rfl, hbl, hcell⟩ := row4.at_ (k := i) (u := .string (str (L.getD i []))) (by have := HNL.out; simp [sv, List.getD, show i < L.length by omega])
      have hl := HX.out (L.getD i []) (by have := HNL.out; simp [List.getD, show i < L.length by omega])
      obtain ⟨x, hx⟩ : ∃ x, L.getD i [] = x := ⟨_, rfl⟩
      rw [hx] at hstep hcell hl
      have HST := Lib.hid hstep
      have hin : (0 : Int) ≤ (i : Int) ∧ (i : Int) < (n : Int) := by omega
      have hlti : decide ((i : Int) < (n : Int)) = true := decide_eq_true (by omega)
      have w64 : IntKind.i64.wrap ((i : Int) + 1) = (i : Int) + 1 := IntWalk.i64_in _ (by have := HNL.out; have := HN.out; omega)
      have HLT := Lib.hid hlt
      clear hstep hx row4 hlt hi
      go_wp2_with fail
      refine (rtrim_any wr x (by omega)).mono ?_
      rintro e wr ⟨rfl, rfl⟩
      obtain ⟨m, hm⟩ : ∃ m, trimR x = m := ⟨_, rfl⟩
      have HML := Lib.hid (show m.length ≤ 16384 by rw [← hm]; exact Nat.le_trans (trimR_len x) hl)
      have HM := Lib.hid hm
      rw [hm]
      have hss : (str m).size = m.length := rfl
      clear hm hcell hin hlti
      by_cases hq0 : m = []
      · have HST2 := Lib.hid (go_ok HST.out (rl_quiet (.inl (HM.out.trans hq0))))
        have x0 : (str m).toList.isEmpty = true := by rw [toList_str, hq0]; rfl
        clear hq0
        go_wp2_with fail
        go_roundw
        case rel => exact ⟨i + 1, C, S, Sx, A2, n2, k2, rfl, by push_cast; rfl, by have := HLT.out; omega, HST2.out, HRC.out, HSO.out, HMEM.out, Nat.le_succ_of_le HLN.out.1, Nat.le_succ_of_le HLN.out.2.1, Nat.le_succ_of_le HLN.out.2.2, HWF.out, HBG.out⟩
        case measure => have := HLT.out; simp [intOf]; omega
      have x0 : (str m).toList.isEmpty = false := by rw [toList_str]; simp [hq0]
      have hm0 : (0 : Int) < (m.length : Int) := by have := List.length_pos_iff.2 hq0; omega
      have hget0 := str_get m 0
      obtain ⟨c0, hc0⟩ : ∃ c, m.getD 0 0 = c := ⟨_, rfl⟩
      rw [hc0] at hget0
      by_cases h35 : c0 = 35
      · have HST2 := Lib.hid (go_ok HST.out (rl_quiet (.inr (by rw [HM.out, hc0, h35]))))
        have x35 : ((c0.toNat : Int) == 35) = true := by rw [h35]; rfl
        clear hq0 hc0 h35
        go_wp2_with fail
        go_roundw
        case rel => exact ⟨i + 1, C, S, Sx, A2, n2, k2, rfl, by push_cast; rfl, by have := HLT.out; omega, HST2.out, HRC.out, HSO.out, HMEM.out, Nat.le_succ_of_le HLN.out.1, Nat.le_succ_of_le HLN.out.2.1, Nat.le_succ_of_le HLN.out.2.2, HWF.out, HBG.out⟩
        case measure => have := HLT.out; simp [intOf]; omega
      have x35 : ((c0.toNat : Int) == 35) = false := beq_eq_false_iff_ne.2 (fun e => h35 (UInt8.toNat_inj.1 (by simp; omega)))
      have HNQ := Lib.hid (show ¬ (m = [] ∨ m.getD 0 0 = 35) by rw [hc0]; rintro (h | h); exact hq0 h; exact h35 h)
      clear hq0 hc0 h35
      go_wp2_with fail
      clear x0 hget0 x35 hm0
      go_loopw [10] (fun v wy => ∃ j : Nat, v = .int .i64 j ∧ j ≤ m.length ∧ (∀ a, a < j → m.getD a 0 ≠ 61) ∧ wy = wr) (fun v _ => m.length - (intOf v).toNat)
      case atStart => exact ⟨0, rfl, Nat.zero_le _, fun a ha => by omega, rfl⟩
      case round =>
        obtain ⟨j, rfl, hj, hno, rfl⟩ := hrel
        have HNO := Lib.hid hno
        clear hno
        by_cases hjl : j < m.length
        · obtain ⟨c, hc⟩ : ∃ c, m.getD j 0 = c := ⟨_, rfl⟩
          have hgetj := str_get m j
          rw [hc] at hgetj
          have hltj : decide ((j : Int) < (m.length : Int)) = true := decide_eq_true (by omega)
          have hinj : (0 : Int) ≤ (j : Int) ∧ (j : Int) < (m.length : Int) := by omega
          have w64j : IntKind.i64.wrap ((j : Int) + 1) = (j : Int) + 1 := IntWalk.i64_in _ (by have := HML.out; omega)
          by_cases h61 : c = 61
          · have x61 : ((c.toNat : Int) != 61) = false := by rw [h61]; rfl
            have xje : ((j : Int) == (m.length : Int)) = false := beq_eq_false_iff_ne.2 (by omega)
            have hs1 : (str m).extract 0 j = str (m.take j) := by rw [extr]; simp
            have hs2 : (str m).extract (j + 1) m.length = str (m.drop (j + 1)) := by rw [extr, List.take_of_length_le (by simp)]
            have e1 : (0 : Int) ≤ (j : Int) ∧ (j : Int) ≤ (m.length : Int) := by omega
            have e2 : (0 : Int) ≤ (j : Int) + 1 ∧ (j : Int) + 1 ≤ (m.length : Int) := by omega
            have e3 : ((j : Int) + 1).toNat = j + 1 := by omega
            have HLV := Lib.hid (rl_val (C := C) (S := S) HM.out HNQ.out hjl (hc.trans h61) HNO.out)
            have ht1 := fun w => rtrim_any w (m.take j) (by have := HML.out; simp; omega)
            have ht2 := fun w => rtrim_any w (m.drop (j + 1)) (by have := HML.out; simp; omega)
            have HZL := Lib.hid (show (trimR (m.drop (j + 1))).length ≤ 20000 by have h1 := trimR_len (m.drop (j + 1)); have h2 := HML.out; rw [List.length_drop] at h1; omega)
            obtain ⟨nm, hnm⟩ : ∃ y, trimR (m.take j) = y := ⟨_, rfl⟩
            obtain ⟨z, hz⟩ : ∃ y, trimR (m.drop (j + 1)) = y := ⟨_, rfl⟩
            rw [hnm, hz] at HLV
            rw [hnm] at ht1
            rw [hz] at ht2 HZL
            obtain ⟨m1, hm1⟩ : ∃ y, m.take j = y := ⟨_, rfl⟩
            obtain ⟨m2, hm2⟩ : ∃ y, m.drop (j + 1) = y := ⟨_, rfl⟩
            rw [hm1] at hs1 ht1
            rw [hm2] at hs2 ht2
            clear hnm hz hm1 hm2 h61 hc HNO
            go_upto_region 18 with fail
            refine rg_begin (fun _ => False) (by kernel_rfl) ?_
            refine rg_take (v := ?_) 0 rfl (by kernel_rfl) (by kernel_rfl) (by kernel_rfl) (fun _ _ _ h => h) (by rfl) ?_ ?_; rotate_left
            · (intro x hx; go_simp; first | done | with_reducible rfl | (rw [if_pos (by omega)]; try with_reducible rfl) | (rw [if_neg (by omega)]; try with_reducible rfl))
            try simp only [Act.put, List.setIfInBounds_toArray, List.set_cons_zero, List.set_cons_succ]
            refine rg_take (v := ?_) 1 rfl (by kernel_rfl) (by kernel_rfl) (by kernel_rfl) (fun _ _ _ h => h) (by rfl) ?_ ?_; rotate_left
            · (intro x hx; go_simp; first | done | with_reducible rfl | (rw [if_pos (by omega)]; try with_reducible rfl) | (rw [if_neg (by omega)]; try with_reducible rfl))
            try simp only [Act.put, List.setIfInBounds_toArray, List.set_cons_zero, List.set_cons_succ]
            refine rg_take (v := ?_) 2 rfl (by kernel_rfl) (by kernel_rfl) (by kernel_rfl) (fun _ _ _ h => h) (by rfl) ?_ ?_; rotate_left
            · (intro x hx; go_simp; first | done | with_reducible rfl | (rw [if_pos (by omega)]; try with_reducible rfl) | (rw [if_neg (by omega)]; try with_reducible rfl))
            try simp only [Act.put, List.setIfInBounds_toArray, List.set_cons_zero, List.set_cons_succ]
            refine rg_take (v := ?_) 4 rfl (by kernel_rfl) (by kernel_rfl) (by kernel_rfl) (fun _ _ _ h => h) (by rfl) ?_ ?_; rotate_left
            · (intro x hx; go_simp; first | done | with_reducible rfl | (rw [if_pos (by omega)]; try with_reducible rfl) | (rw [if_neg (by omega)]; try with_reducible rfl))
            try simp only [Act.put, List.setIfInBounds_toArray, List.set_cons_zero, List.set_cons_succ]
            refine rg_take (v := ?_) 5 rfl (by kernel_rfl) (by kernel_rfl) (by kernel_rfl) (fun _ _ _ h => h) (by rfl) ?_ ?_; rotate_left
            · (intro x hx; go_simp; first | done | with_reducible rfl | (rw [if_pos (by omega)]; try with_reducible rfl) | (rw [if_neg (by omega)]; try with_reducible rfl))
            try simp only [Act.put, List.setIfInBounds_toArray, List.set_cons_zero, List.set_cons_succ]
            refine rg_take (v := ?_) 6 rfl (by kernel_rfl) (by kernel_rfl) (by kernel_rfl) (fun _ _ _ h => h) (by rfl) ?_ ?_; rotate_left
            · (intro x hx; go_simp; first | done | with_reducible rfl | (rw [if_pos (by omega)]; try with_reducible rfl) | (rw [if_neg (by omega)]; try with_reducible rfl))
            try simp only [Act.put, List.setIfInBounds_toArray, List.set_cons_zero, List.set_cons_succ]
            refine rg_take (v := ?_) 7 rfl (by kernel_rfl) (by kernel_rfl) (by kernel_rfl) (fun _ _ _ h => h) (by rfl) ?_ ?_; rotate_left
            · (intro x hx; go_simp; first | done | with_reducible rfl | (rw [if_pos (by omega)]; try with_reducible rfl) | (rw [if_neg (by omega)]; try with_reducible rfl))
            try simp only [Act.put, List.setIfInBounds_toArray, List.set_cons_zero, List.set_cons_succ]
            refine rg_step 3 rfl (by kernel_rfl) (by rfl) (fun K hK => ?_)
            go_simp
            refine (ht1 _).mono ?_
            rintro e wz ⟨rfl, rfl⟩
            refine hK.out _ _ (Ext.refl _ _) ?_
            clear hK K; try simp only [Act.put, List.setIfInBounds_toArray, List.set_cons_zero, List.set_cons_succ]
            refine rg_step 8 rfl (by kernel_rfl) (by rfl) (fun K hK => ?_)
            go_simp
            refine (ht2 _).mono ?_
            rintro e wz ⟨rfl, rfl⟩
            refine hK.out _ _ (Ext.refl _ _) ?_
            clear hK K; try simp only [Act.put, List.setIfInBounds_toArray, List.set_cons_zero, List.set_cons_succ]
            refine rg_take (v := ?_) 9 rfl (by kernel_rfl) (by kernel_rfl) (by kernel_rfl) (fun _ _ _ h => h) (by rfl) ?_ ?_; rotate_left
            · (intro x hx; go_simp; first | done | with_reducible rfl | (rw [if_pos (by omega)]; try with_reducible rfl) | (rw [if_neg (by omega)]; try with_reducible rfl))
            try simp only [Act.put, List.setIfInBounds_toArray, List.set_cons_zero, List.set_cons_succ]
            refine rg_take (v := ?_) 10 rfl (by kernel_rfl) (by kernel_rfl) (by kernel_rfl) (fun _ _ _ h => h) (by rfl) ?_ ?_; rotate_left
            · (intro x hx; go_simp; first | done | with_reducible rfl | (rw [if_pos (by omega)]; try with_reducible rfl) | (rw [if_neg (by omega)]; try with_reducible rfl))
            try simp only [Act.put, List.setIfInBounds_toArray, List.set_cons_zero, List.set_cons_succ]
            refine rg_done (by kernel_rfl) ?_
            clear ht1 ht2 hs1 hs2 e1 e2 e3 hgetj hltj hinj w64j x61 xje
            go_wp2_with fail
            refine (rknown_any _ nm).mono ?_
            rintro e w6 ⟨rfl, q6⟩
            have q6' : Below wr.heap.size wr w6 := (Below.refl _ wr).drew.trans q6
            have HRC6 := Lib.hid (HRC.out.below q6')
            have HSO6 := Lib.hid (HSO.out.keepB q6')
            have R6 := below_at q6' R (heap_lt R)
            have hb6 : g0 ≤ w6.heap.size := by have := heap_lt R6; omega
            have HB6 := Lib.hid (HB4.out.trans (q6'.mono hb4))
            have hgr6 : g < w6.heap.size := HRC6.out.lt
            have HBG6 := Lib.hid (HBG.out.trans (q6'.mono (Nat.le_of_lt hgr)))
            have HI400 := Lib.hid (show i ≤ 400 by have := HLT.out; have := HNL.out; have := HN.out; omega)
            clear q6 q6' R hb4 hgr HRC HSO
            rcases hkb : knownB nm with _ | _
            · have hnone : refVal nm z = none := by
                rcases h : refVal nm z with _ | vs
                · rfl
                · rw [known_val h] at hkb; cases hkb
              have HR := Lib.hid (go_bad HST.out (HLV.out.trans (show rlV C S nm z = (9, C, S) by rw [rlV, hnone])) (by decide))
              clear hnone
              go_wp2_with ((with_reducible apply at_store_part 40); (case hx => exact rfl); (case hy => exact rfl); (case hg => exact R6); (case hle => simp); (case hi => kernel_rfl); (case h1 => kernel_rfl); (intro w8 g8 R8; replace R8 := Lib.hid R8))
              have R9 : w8.heap[g0]? = some (.cells (spliceAt cfZ 0 (cfC cf0 nilS nilS).toList) 40 (0, 0)) := R8.out
              rw [spliceZ] at R9
              refine bodyPost_cell_tmp2 g0 _ _ _ rfl rfl R9 Tryz.underlying40 rfl (by kernel_rfl) rfl ?_
              exact ⟨none, 0, 0, none, 0, 0, by rw [HR.out]; rfl, Nat.le_refl _, Nat.le_refl _, by rw [HR.out]; exact CR.zero _ _, by rw [HG0.out]; exact below_grown HB6.out g8 hb6 (Nat.le_refl _)⟩
            · have hval := rvalue_any w6 g g (Nat.le_of_lt hgr6) C HRC6.out (by have := HLN.out; have := HI400.out; omega) (by have := HLN.out; have := HI400.out; omega) nm z hkb HZL.out
              unfold RvG at hval
              rcases hrv : refVal nm z with _ | vs
              · rw [hrv] at hval
                simp only [Option.isSome_none] at hval
                have HR := Lib.hid (go_bad HST.out (HLV.out.trans (show rlV C S nm z = (9, C, S) by rw [rlV, hrv])) (by decide))
                clear hkb hrv
                go_wp2_with fail
                refine hval.mono ?_
                rintro e w7 ⟨rfl, _, x7⟩
                have R7 := (x7.block g0 (heap_lt R6) (by have := HZ.out.1; omega)).trans R6
                have HB7 := Lib.hid (HB6.out.trans (x7.below (H := g0) hb6 (fun k hk e => by have := HZ.out.1; omega)))
                have hb7 : g0 ≤ w7.heap.size := by have := heap_lt R7; omega
                clear hval x7 R6 hb6
                go_wp2_with ((with_reducible apply at_store_part 40); (case hx => exact rfl); (case hy => exact rfl); (case hg => exact R7); (case hle => simp); (case hi => kernel_rfl); (case h1 => kernel_rfl); (intro w8 g8 R8; replace R8 := Lib.hid R8))
                have R9 : w8.heap[g0]? = some (.cells (spliceAt cfZ 0 (cfC cf0 nilS nilS).toList) 40 (0, 0)) := R8.out
                rw [spliceZ] at R9
                refine bodyPost_cell_tmp2 g0 _ _ _ rfl rfl R9 Tryz.underlying40 rfl (by kernel_rfl) rfl ?_
                exact ⟨none, 0, 0, none, 0, 0, by rw [HR.out]; rfl, Nat.le_refl _, Nat.le_refl _, by rw [HR.out]; exact CR.zero _ _, by rw [HG0.out]; exact below_grown HB7.out g8 hb7 (Nat.le_refl _)⟩
              · rw [hrv] at hval
                simp only [Option.isSome_some] at hval
                have HLV2 := Lib.hid (show lineG C S x = if nm ∈ S ∧ nm ≠ nFixed ∧ nm ≠ nOpen then (8, C, S) else (0, setG C nm vs, nm :: S) by rw [HLV.out, rlV, hrv])
                clear hkb hrv HLV
                go_wp2_with fail
                refine hval.mono ?_
                rintro e w7 ⟨rfl, hRC7, x7⟩
                have HRC7 := Lib.hid (hRC7 vs rfl)
                have HSO7 := Lib.hid (HSO6.out.keepG HRC6.out x7)
                have R7 := (x7.block g0 (heap_lt R6) (by have := HZ.out.1; omega)).trans R6
                have HB7 := Lib.hid (HB6.out.trans (x7.below (H := g0) hb6 (fun k hk e => by have := HZ.out.1; omega)))
                have hb7 : g0 ≤ w7.heap.size := by have := heap_lt R7; omega
                have hgr7 : g < w7.heap.size := HRC7.out.lt
                have HBG7 := Lib.hid (HBG6.out.trans (x7.below (Nat.le_of_lt hgr6) (fun k hk e => by omega)))
                have hsx : Sx.length ≤ 400 := by have := HSO7.out.1; have := HLN.out.1; have := HI400.out; omega
                clear hval hRC7 x7 R6 hb6 hgr6 HRC6 HSO6 HBG6 HB6
                go_wp2_with fail
                refine (rhasS_any w7 g n2 k2 A2 Sx HSO7.out (by have := HSO7.out.1; omega) nm).mono ?_
                rintro e w7 ⟨rfl, rfl⟩
                by_cases hbad : nm ∈ S ∧ nm ≠ nFixed ∧ nm ≠ nOpen
                · have d : decide (nm ∈ Sx) = true := decide_eq_true ((HMEM.out nm).2 hbad.1)
                  have f1 : ((str nm).toList == [102, 105, 120, 101, 100]) = false := by rw [toList_str]; exact beq_eq_false_iff_ne.2 hbad.2.1
                  have f2 : ((str nm).toList == [111, 112, 101, 110]) = false := by rw [toList_str]; exact beq_eq_false_iff_ne.2 hbad.2.2
                  have HR := Lib.hid (go_bad HST.out (HLV2.out.trans (if_pos hbad)) (by decide))
                  rw [d]
                  clear hbad d
                  go_wp2_with ((with_reducible apply at_store_part 40); (case hx => exact rfl); (case hy => exact rfl); (case hg => exact R7); (case hle => simp); (case hi => kernel_rfl); (case h1 => kernel_rfl); (intro w8 g8 R8; replace R8 := Lib.hid R8))
                  have R9 : w8.heap[g0]? = some (.cells (spliceAt cfZ 0 (cfC cf0 nilS nilS).toList) 40 (0, 0)) := R8.out
                  rw [spliceZ] at R9
                  refine bodyPost_cell_tmp2 g0 _ _ _ rfl rfl R9 Tryz.underlying40 rfl (by kernel_rfl) rfl ?_
                  exact ⟨none, 0, 0, none, 0, 0, by rw [HR.out]; rfl, Nat.le_refl _, Nat.le_refl _, by rw [HR.out]; exact CR.zero _ _, by rw [HG0.out]; exact below_grown HB7.out g8 hb7 (Nat.le_refl _)⟩
                · have hcs : decide (nm ∈ Sx) = false ∨ (decide (nm ∈ Sx) = true ∧ ((str nm).toList == [102, 105, 120, 101, 100]) = true) ∨ (decide (nm ∈ Sx) = true ∧ ((str nm).toList == [102, 105, 120, 101, 100]) = false ∧ ((str nm).toList == [111, 112, 101, 110]) = true) := by
                    by_cases h1 : nm ∈ S
                    · right
                      have d : decide (nm ∈ Sx) = true := decide_eq_true ((HMEM.out nm).2 h1)
                      by_cases h2 : nm = nFixed
                      · exact .inl ⟨d, by rw [toList_str, h2]; rfl⟩
                      · by_cases h3 : nm = nOpen
                        · exact .inr ⟨d, by rw [toList_str]; exact beq_eq_false_iff_ne.2 h2, by rw [toList_str, h3]; rfl⟩
                        · exact absurd ⟨h1, h2, h3⟩ hbad
                    · exact .inl (decide_eq_false (fun h => h1 ((HMEM.out nm).1 h)))
                  have HST2 := Lib.hid (go_ok HST.out (HLV2.out.trans (if_neg hbad)))
                  have HWF2 := Lib.hid (show wfG (setG C nm vs) from by have h := lineG_wf S x HWF.out; rw [HLV2.out, if_neg hbad] at h; exact h)
                  have HL2 := Lib.hid (setG_len C nm vs)
                  clear hbad R7 hb7
                  rcases hcs with d | ⟨d, f1⟩ | ⟨d, f1, f2⟩
                  all_goals
                    rw [d]
                    clear d
                    go_wp2_with (at_builtin; go_must (refine appS rfl _ _ rfl g A2 n2 k2 Sx rfl (HSO7.out.alloc _) w7.heap.size 1 nm rfl ((cells_of (heap_alloc_new w7 _)).1 0) (by simp) (by omega) (by simp; omega) ?_))
                    intro A3 n3 k3 w9 ho9 hbw hg9
                    have HRC9 := Lib.hid ((HRC7.out.below ((Below.refl _ w7).alloc (Nat.le_refl _) _)).seen (HSO7.out.alloc _) hg9)
                    have HBG9 := Lib.hid ((HBG7.out.alloc (Nat.le_of_lt hgr7) _).trans hbw)
                    have HO9 := Lib.hid ho9
                    have HN3 := Lib.hid (show n3 ≤ i + 1 by have h1 := ho9.1; have h2 := HSO7.out.1; have := HLN.out.1; simp at h1; omega)
                    clear hbw hg9 ho9
                    go_wp2_with fail
                    go_roundw
                    case rel =>
                      exact ⟨i + 1, setG C nm vs, nm :: S, Sx ++ [nm], A3, n3, k3, rfl, by push_cast; rfl, by have := HLT.out; omega, HST2.out, HRC9.out, HO9.out, fun y => by have h := HMEM.out y; simp only [List.mem_append, List.mem_cons, List.not_mem_nil, or_false, h]; exact or_comm, HN3.out, Nat.le_trans HL2.out.1 (Nat.succ_le_succ HLN.out.2.1), Nat.le_trans HL2.out.2 (Nat.succ_le_succ HLN.out.2.2), HWF2.out, HBG9.out⟩
                    case measure => have := HLT.out; simp [intOf]; omega
          · have x61 : ((c.toNat : Int) != 61) = true := bne_iff_ne.2 (fun e => h61 (UInt8.toNat_inj.1 (by simp; omega)))
            have HNO2 := Lib.hid (show ∀ a, a < j + 1 → m.getD a 0 ≠ 61 from fun a ha => by
              rcases Nat.lt_or_ge a j with h | h
              · exact HNO.out a h
              · obtain rfl : a = j := by omega
                rw [hc]; exact h61)
            have HJL := Lib.hid hjl
            clear h61 hc
            go_wp2_with fail
            go_roundw
            case rel => exact ⟨j + 1, by push_cast; rfl, HJL.out, HNO2.out, by first | rfl | trivial⟩
            case measure => have := HJL.out; simp [intOf]; omega
        · obtain rfl : j = m.length := by omega
          have hltj : decide ((m.length : Int) < (m.length : Int)) = false := decide_eq_false (by omega)
          have xje : ((m.length : Int) == (m.length : Int)) = true := beq_self_eq_true _
          have HR := Lib.hid (go_bad HST.out (rl_no (by rw [HM.out]; exact HNQ.out) (by rw [HM.out]; exact no61 HNO.out)) (by decide))
          clear hj hjl
          go_wp2_with ((with_reducible apply at_store_part 40); (case hx => exact rfl); (case hy => exact rfl); (case hg => exact R); (case hle => simp); (case hi => kernel_rfl); (case h1 => kernel_rfl); (intro w6 g6 R6; replace R6 := Lib.hid R6))
          have R7 : w6.heap[g0]? = some (.cells (spliceAt cfZ 0 (cfC cf0 nilS nilS).toList) 40 (0, 0)) := R6.out
          rw [spliceZ] at R7
          refine bodyPost_cell_tmp2 g0 _ _ _ rfl rfl R7 Tryz.underlying40 rfl (by kernel_rfl) rfl ?_
          exact ⟨none, 0, 0, none, 0, 0, by rw [HR.out]; rfl, Nat.le_refl _, Nat.le_refl _, by rw [HR.out]; exact CR.zero _ _, by rw [HG0.out]; exact below_grown HB4.out g6 hb4 (Nat.le_refl _)⟩
    · obtain rfl : i = n := by omega
      have hr0 : (0, i, C, S) = r := by
        have := HGO.out
        rw [List.drop_of_length_le (by have := HNL.out; omega)] at this
        exact this
      have HR0 := Lib.hid (show resR r = (if checkG (rendsG C S) = true then (rendsG C S, 0, 0) else (zG, 0, 1)) by rw [← hr0]; rfl)
      have hlti : decide ((i : Int) < (i : Int)) = false := decide_eq_false (by omega)
      have hnx : n2 ≤ 100000 := by have := HLN.out.1; have := HNL.out; have := HN.out; omega
      have HLEN := Lib.hid (show C.lf.length ≤ 400 ∧ C.lo.length ≤ 400 by have := HLN.out; have := HNL.out; have := HN.out; omega)
      have hh1 := rhasS_any wr g n2 k2 A2 Sx HSO.out hnx nLan
      clear hr0 HGO row4 hi hlt
      go_wp2_with fail
      refine hh1.mono ?_
      rintro e w0r ⟨rfl, rfl⟩
      clear hh1 hlti
      go_upto_if 105 with fail
      go_cut [] (fun wx => RC wx g g (rendsG C S) ∧ Ext (fun j => j = g) w0r wx)
      case first =>
       as_aux_lemma =>
        clear HR0 R hb4 hgr HB4 HBG HLEN HWF HLN HROW HZ HX HR2 HB2 HG0 HNL HN
        by_cases hlan : nLan ∈ S
        case neg =>
          have d : decide (nLan ∈ Sx) = false := decide_eq_false (fun h => hlan ((HMEM.out nLan).1 h))
          have HC := Lib.hid (show rendsG C S = C by rw [rendsG, rendsV, if_neg hlan])
          rw [d]
          clear hlan d
          go_wp2_with fail
          go_meet
          exact ⟨by rw [HC.out]; exact HRC.out, Ext.refl _ _⟩
        have d : decide (nLan ∈ Sx) = true := decide_eq_true ((HMEM.out nLan).2 hlan)
        rw [d]
        have HEV := Lib.hid (show rendsV C.c S = { C.c with fst := if nFirst ∈ S then C.c.fst else of4 (w32 (rendF C.c)), lst := if nLast ∈ S then C.c.lst else of4 (w32 (rendL C.c)) } by rw [rendsV, if_pos hlan])
        clear hlan d
        obtain ⟨A, n1, k1, A3, n3, k3, P, F, O⟩ := HRC.out
        have HFO := Lib.hid (⟨F, O⟩ : _ ∧ _)
        obtain ⟨c, hc⟩ : ∃ c, C.c = c := ⟨_, rfl⟩
        have HCC := Lib.hid hc
        rw [hc] at HEV P
        clear F O hc
        have HP := Lib.hid P
        have f0 := (cells_of P).1
        obtain ⟨F1, hF1⟩ : ∃ F, firstA c.lanA c.lanB = F := ⟨_, rfl⟩
        obtain ⟨L1, hL1⟩ : ∃ F, lastA c.lanA c.lanB = F := ⟨_, rfl⟩
        obtain ⟨nf, hnf⟩ : ∃ n, numA F1 = n := ⟨_, rfl⟩
        obtain ⟨nl, hnl⟩ : ∃ n, numA L1 = n := ⟨_, rfl⟩
        have hnf1 : nf < 4294967296 := by rw [← hnf]; exact numA_lt F1
        have hnl1 : nl < 4294967296 := by rw [← hnl]; exact numA_lt L1
        have HRF := Lib.hid (show rendF c = if 24 < c.lanB then (nf : Int) + 2 else (nf : Int) + 100 by rw [rendF, hF1, hnf])
        have HRL := Lib.hid (show rendL c = if 24 < c.lanB then (if (nl : Int) - 1 < (nf : Int) + 33 then (nl : Int) - 1 else (nf : Int) + 33) else (nf : Int) + 131 by rw [rendL, hF1, hnf, hL1, hnl])
        have EF := Lib.hid hF1
        have EL := Lib.hid hL1
        have NF := Lib.hid hnf
        have NL := Lib.hid hnl
        have wnf : IntKind.i64.wrap (nf : Int) = (nf : Int) := IntWalk.i64_in _ (by omega)
        have wa1 : IntKind.i64.wrap ((nf : Int) + 100) = (nf : Int) + 100 := IntWalk.i64_in _ (by omega)
        have wa2 : IntKind.i64.wrap ((nf : Int) + 131) = (nf : Int) + 131 := IntWalk.i64_in _ (by omega)
        clear hF1 hL1 hnf hnl P
        go_wp2_with fail
        refine (rfirst_any w0r c.lanA c.lanB).mono ?_
        rw [EF.out]
        rintro e w3 ⟨rfl, q3⟩
        have P3 := below_at q3 HP.out (heap_lt HP.out)
        clear f0
        go_wp2_with fail
        refine (rnum_any w3 F1).mono ?_
        rw [NF.out]
        rintro e w4 ⟨rfl, q4⟩
        have P4 := below_at q4 P3 (heap_lt P3)
        have f4 := (cells_of P4).1
        have q4' := q3.trans (q4.mono q3.size)
        clear P3 q3 q4
        go_upto_if 118 with fail
        go_cut [14, 15] (fun a b wx => a = .int .i64 (rendF c) ∧ b = .int .i64 (rendL c) ∧ Below w4.heap.size w4 wx)
        case first =>
          by_cases hb : 24 < c.lanB
          case neg =>
            have d1 : decide (24 < c.lanB) = false := decide_eq_false hb
            have HF := Lib.hid (show rendF c = (nf : Int) + 100 by rw [HRF.out, if_neg hb])
            have HL := Lib.hid (show rendL c = (nf : Int) + 131 by rw [HRL.out, if_neg hb])
            rw [d1]
            clear hb d1
            go_wp2_with fail
            go_meet
            exact ⟨by rw [HF.out], by rw [HL.out], Below.refl _ _⟩
          have d1 : decide (24 < c.lanB) = true := decide_eq_true hb
          have HF := Lib.hid (show rendF c = (nf : Int) + 2 by rw [HRF.out, if_pos hb])
          have HL := Lib.hid (show rendL c = (if (nl : Int) - 1 < (nf : Int) + 33 then (nl : Int) - 1 else (nf : Int) + 33) by rw [HRL.out, if_pos hb])
          have wa3 : IntKind.i64.wrap ((nf : Int) + 2) = (nf : Int) + 2 := IntWalk.i64_in _ (by omega)
          have wa4 : IntKind.i64.wrap ((nf : Int) + 33) = (nf : Int) + 33 := IntWalk.i64_in _ (by omega)
          have wnl : IntKind.i64.wrap (nl : Int) = (nl : Int) := IntWalk.i64_in _ (by omega)
          have wa5 : IntKind.i64.wrap ((nl : Int) - 1) = (nl : Int) - 1 := IntWalk.i64_in _ (by omega)
          rw [d1]
          clear hb wa1 wa2 d1
          go_wp2_with fail
          refine (rlast_any w4 c.lanA c.lanB).mono ?_
          rw [EL.out]
          rintro e w5 ⟨rfl, q5⟩
          clear f4
          go_wp2_with fail
          refine (rnum_any w5 L1).mono ?_
          rw [NL.out]
          rintro e w6 ⟨rfl, q6⟩
          have q6' := q5.trans (q6.mono q5.size)
          clear q5 q6
          by_cases h33 : (nl : Int) - 1 < (nf : Int) + 33
          · have d2 : decide ((nl : Int) - 1 < (nf : Int) + 33) = true := decide_eq_true h33
            have HL2 := Lib.hid (show rendL c = (nl : Int) - 1 by rw [HL.out, if_pos h33])
            clear h33
            go_wp2_with fail
            go_meet
            exact ⟨by rw [HF.out], by rw [HL2.out], q6'⟩
          · have d2 : decide ((nl : Int) - 1 < (nf : Int) + 33) = false := decide_eq_false h33
            have HL2 := Lib.hid (show rendL c = (nf : Int) + 33 by rw [HL.out, if_neg h33])
            clear h33
            go_wp2_with fail
            go_meet
            exact ⟨by rw [HF.out], by rw [HL2.out], q6'⟩
        case rest =>
          obtain ⟨rfl, rfl, q5⟩ := hcut
          have P5 := below_at q5 P4 (heap_lt P4)
          have x5 : Ext (fun j => j = g) w0r wc := Ext.below_all _ (q4'.trans (q5.mono q4'.size))
          have hsz : w0r.heap.size ≤ wc.heap.size := x5.size
          have hsg := heap_lt P5
          clear f4 wnf wa1 wa2 q4' P4 q5
          obtain ⟨rF, hrF⟩ : ∃ x, rendF c = x := ⟨_, rfl⟩
          obtain ⟨rL, hrL⟩ : ∃ x, rendL c = x := ⟨_, rfl⟩
          rw [hrF, hrL] at HEV ⊢
          have hwF := wrapU rF
          have hwL := wrapU rL
          have HwF := w32_in rF
          have HwL := w32_in rL
          obtain ⟨ef, hef⟩ : ∃ x, w32 rF = x := ⟨_, rfl⟩
          obtain ⟨el, hel⟩ : ∃ x, w32 rL = x := ⟨_, rfl⟩
          rw [hef] at hwF HwF HEV
          rw [hel] at hwL HwL HEV
          have H1 := Lib.hid HwF
          have H2 := Lib.hid HwL
          clear hrF hrL hef hel HwF HwL
          have hh2 := rhasS_any wc g n2 k2 A2 Sx (HSO.out.keepG HRC.out x5) hnx nFirst
          go_wp2_with fail
          refine hh2.mono ?_
          rintro e wc ⟨rfl, rfl⟩
          clear hh2
          by_cases hf : nFirst ∈ S
          case' pos =>
            rw [show decide (nFirst ∈ Sx) = true from decide_eq_true ((HMEM.out nFirst).2 hf)]
            have HC1 := Lib.hid (show { c with fst := if nFirst ∈ S then c.fst else of4 ef } = c by rw [if_pos hf])
            clear hf
            go_upto_region 34 with fail
            obtain ⟨c1, hc1⟩ : ∃ c1, c = c1 := ⟨_, rfl⟩
            have P6 : RCB wc g c1 (.slice A n1 k1) (.slice A3 n3 k3) := by rw [← hc1]; exact P5
            have HC2 := Lib.hid (show { c with fst := if nFirst ∈ S then c.fst else of4 ef } = c1 by rw [HC1.out, hc1])
            have x6 := x5
            obtain ⟨u6, hu6⟩ : ∃ u6, u6 = wc := ⟨_, rfl⟩
            rw [← hu6] at P6 x6 ⊢
            clear hc1 hu6 P5 x5 HC1
          case' neg =>
            rw [show decide (nFirst ∈ Sx) = false from decide_eq_false (fun h => hf ((HMEM.out nFirst).1 h))]
            have HC1 := Lib.hid (show { c with fst := if nFirst ∈ S then c.fst else of4 ef } = { c with fst := of4 ef } by rw [if_neg hf])
            clear hf
            go_wp2_with fail
            refine (of4_any wc ef H1.out.1 H1.out.2).mono ?_
            rintro e u5 ⟨rfl, q6⟩
            have P55 := below_at q6 P5 (heap_lt P5)
            have x55 := x5.trans (Ext.below_all _ q6)
            obtain ⟨aF, haF⟩ : ∃ a, of4 ef = a := ⟨_, rfl⟩
            have HAF := Lib.hid haF
            rw [haF]
            clear haF P5 x5 q6
            go_upto_region 34 with ((with_reducible apply at_store_part 24); (case hx => exact rfl); (case hy => exact rfl); (case hg => exact P55); (case hle => simp); (case hi => kernel_rfl); (case h1 => kernel_rfl); (intro u6 gx Px; replace Px := Lib.hid Px))
            obtain ⟨c1, hc1⟩ : ∃ c1, { c with fst := aF } = c1 := ⟨_, rfl⟩
            have P6 : RCB u6 g c1 (.slice A n1 k1) (.slice A3 n3 k3) := by rw [← hc1]; exact Px.out
            have HC2 := Lib.hid (show { c with fst := if nFirst ∈ S then c.fst else of4 ef } = c1 by rw [HC1.out, HAF.out, hc1])
            have x6 : Ext (fun j => j = g) w0r u6 := x55.trans (Ext.of_grown (M := fun j => j = g) gx (fun j h => by injection h with h; exact h.symm))
            clear P55 x55 gx Px hc1 HC1
          all_goals
            have hh3 := rhasS_any u6 g n2 k2 A2 Sx (HSO.out.keepG HRC.out x6) hnx nLast
            go_wp2_with fail
            refine hh3.mono ?_
            rintro e u6 ⟨rfl, rfl⟩
            clear hh3
            by_cases hf : nLast ∈ S
            case pos =>
              rw [show decide (nLast ∈ Sx) = true from decide_eq_true ((HMEM.out nLast).2 hf)]
              have HC3 := Lib.hid (show rendsV c S = c1 by rw [HEV.out, ← HC2.out, if_pos hf])
              clear hf
              go_wp2_with fail
              go_meet
              refine ⟨?_, x6⟩
              rw [rendsG_c, HCC.out, HC3.out]
              have h1 := own_ne_b HFO.out.1 HP.out (by decide)
              have h2 := own_ne_b HFO.out.2 HP.out (by decide)
              exact ⟨A, n1, k1, A3, n3, k3, P6, HFO.out.1.ext x6 (fun j hj e => h1 (by rw [hj, e])), HFO.out.2.ext x6 (fun j hj e => h2 (by rw [hj, e]))⟩
            case neg =>
              rw [show decide (nLast ∈ Sx) = false from decide_eq_false (fun h => hf ((HMEM.out nLast).1 h))]
              have HC3 := Lib.hid (show rendsV c S = { c1 with lst := of4 el } by rw [HEV.out, ← HC2.out, if_neg hf])
              clear hf
              go_wp2_with fail
              refine (of4_any u6 el H2.out.1 H2.out.2).mono ?_
              rintro e u7 ⟨rfl, q7⟩
              have P7 := below_at q7 P6 (heap_lt P6)
              have x7 := x6.trans (Ext.below_all _ q7)
              obtain ⟨aL, haL⟩ : ∃ a, of4 el = a := ⟨_, rfl⟩
              have HAL := Lib.hid haL
              rw [haL]
              clear haL P6 x6 q7
              go_wp2_with ((with_reducible apply at_store_part 24); (case hx => exact rfl); (case hy => exact rfl); (case hg => exact P7); (case hle => simp); (case hi => kernel_rfl); (case h1 => kernel_rfl); (intro u8 gy Py; replace Py := Lib.hid Py))
              go_meet
              have x8 : Ext (fun j => j = g) w0r u8 := x7.trans (Ext.of_grown (M := fun j => j = g) gy (fun j h => by injection h with h; exact h.symm))
              refine ⟨?_, x8⟩
              rw [rendsG_c, HCC.out, HC3.out, HAL.out]
              have h1 := own_ne_b HFO.out.1 HP.out (by decide)
              have h2 := own_ne_b HFO.out.2 HP.out (by decide)
              exact ⟨A, n1, k1, A3, n3, k3, Py.out, HFO.out.1.ext x8 (fun j hj e => h1 (by rw [hj, e])), HFO.out.2.ext x8 (fun j hj e => h2 (by rw [hj, e]))⟩
      case rest =>
        obtain ⟨hRC5, x5⟩ := hcut
        have R5 := (x5.block g0 (heap_lt R) (by have := HZ.out.1; omega)).trans R
        have HB5 := Lib.hid (HB4.out.trans (x5.below (H := g0) hb4 (fun k hk e => by have := HZ.out.1; omega)))
        have hb5 : g0 ≤ wc.heap.size := by have := heap_lt R5; omega
        obtain ⟨AF, nF, kF, AO, nO, kO, P5, F5, O5⟩ := hRC5
        have C5 : CR wc wc.heap.size (rendsG C S) AF nF AO nO := ⟨F5.row.1, F5.1, by have := HLEN.out.1; have := F5.1; have e : (rendsG C S).lf = C.lf := rfl; rw [e] at this; omega, O5.row.1, O5.1, by have := HLEN.out.2; have := O5.1; have e : (rendsG C S).lo = C.lo := rfl; rw [e] at this; omega, HWF.out⟩
        have HK := Lib.hid (⟨F5.row.2, O5.row.2⟩ : _ ∧ _)
        have HLN5 := Lib.hid (show (rendsG C S).lf.length ≤ 400 ∧ (rendsG C S).lo.length ≤ 400 from HLEN.out)
        have HWF5 := Lib.hid (show ∀ o ∈ (rendsG C S).lo, wfOp o from HWF.out)
        obtain ⟨⟨c1, lf1, lo1⟩, hCE⟩ : ∃ CE, rendsG C S = CE := ⟨_, rfl⟩
        rw [hCE] at HR0 P5 F5 O5 C5 HLN5 HWF5
        have HF5 := Lib.hid F5
        have HO5 := Lib.hid O5
        clear x5 R hb4 hgr HRC HSO HMEM hnx HWF HLEN hCE F5 O5
        have hch := rcheck_any wc c1 lf1 lo1 AF nF kF AO nO kO C5
        go_wp2_with ((with_reducible apply at_load_row 40); (case hx => exact rfl); (case hg => exact P5); (case hu => exact Tryz.underlying40); (case hd => rfl); (case hi => kernel_rfl))
        refine hch.mono ?_
        rintro e w6 ⟨rfl, q6⟩
        have P6 := below_at q6 P5 (heap_lt P5)
        have R6 := below_at q6 R5 (heap_lt R5)
        have HB6 := Lib.hid (HB5.out.trans (q6.mono hb5))
        have F6 := Lib.hid (HF5.out.below q6)
        have O6 := Lib.hid (HO5.out.below q6)
        have hb6 : g0 ≤ w6.heap.size := by have := heap_lt R6; omega
        clear hch C5 P5 R5 q6
        rcases hck : checkG ⟨c1, lf1, lo1⟩ with _ | _
        · have HR := Lib.hid (show resR r = (zG, 0, 1) by rw [HR0.out, if_neg (by rw [hck]; decide)])
          clear hck P6
          go_wp2_with ((with_reducible apply at_store_part 40); (case hx => exact rfl); (case hy => exact rfl); (case hg => exact R6); (case hle => simp); (case hi => kernel_rfl); (case h1 => kernel_rfl); (intro w8 g8 R8; replace R8 := Lib.hid R8))
          have R9 : w8.heap[g0]? = some (.cells (spliceAt cfZ 0 (cfC cf0 nilS nilS).toList) 40 (0, 0)) := R8.out
          rw [spliceZ] at R9
          refine bodyPost_cell_tmp2 g0 _ _ _ rfl rfl R9 Tryz.underlying40 rfl (by kernel_rfl) rfl ?_
          exact ⟨none, 0, 0, none, 0, 0, by rw [HR.out]; rfl, Nat.le_refl _, Nat.le_refl _, by rw [HR.out]; exact CR.zero _ _, by rw [HG0.out]; exact below_grown HB6.out g8 hb6 (Nat.le_refl _)⟩
        · have HR := Lib.hid (show resR r = (⟨c1, lf1, lo1⟩, 0, 0) by rw [HR0.out, if_pos hck])
          clear hck
          go_wp2_with (first | ((with_reducible apply at_load_row 40); (case hx => exact rfl); (case hg => exact P6); (case hu => exact Tryz.underlying40); (case hd => rfl); (case hi => kernel_rfl)) | ((with_reducible apply at_store_part 40); (case hx => exact rfl); (case hy => exact rfl); (case hg => exact R6); (case hle => simp); (case hi => kernel_rfl); (case h1 => kernel_rfl); (intro w8 g8 R8; replace R8 := Lib.hid R8)))
          have F8 := F6.out.kept g8 (F6.out.ne R6 (by decide))
          have O8 := O6.out.kept g8 (O6.out.ne R6 (by decide))
          have R9 := R8.out
          rw [spliceZ] at R9
          refine bodyPost_cell_tmp2 g0 _ _ _ rfl rfl R9 Tryz.underlying40 rfl (by kernel_rfl) rfl ?_
          refine ⟨AF, nF, kF, AO, nO, kO, by rw [HR.out]; rfl, HK.out.1, HK.out.2, ?_, by rw [HG0.out]; exact below_grown HB6.out g8 hb6 (Nat.le_refl _)⟩
          rw [HR.out]
          exact ⟨F8.row.1, F8.1, by have := HLN5.out.1; have := F8.1; omega, O8.row.1, O8.1, by have := HLN5.out.2; have := O8.1; omega, HWF5.out⟩
end Go.Proofs.YtnmdiageigbphaaGreatDoor
