/-
  The reference's Cut.
-/
import Derived.Test.YtabmgggmailomaaDoorCn1
import Derived.Test.YtabmgggmailomaaDoorAt
import Derived.Test.YtabmgggmailomaaDoorRegion2
namespace Go.Proofs.YtabmgggmailomaaDoor
open Go.RowKit

theorem cutB_snoc (c x : UInt8) : ∀ a : List UInt8, ∃ init last, cutB c a = init ++ [last] ∧ cutB c (a ++ [x]) = if x = c then init ++ [last] ++ [[]] else init ++ [last ++ [x]]
  | [] => ⟨[], [], rfl, by by_cases h : x = c <;> simp [cutB, h]⟩
  | y :: r => by
    obtain ⟨init, last, h1, h2⟩ := cutB_snoc c x r
    rw [List.cons_append, cutB, cutB, h2, h1]
    by_cases hy : y = c
    · rw [if_pos hy, if_pos hy]
      refine ⟨[] :: init, last, rfl, ?_⟩
      split <;> rfl
    · rw [if_neg hy, if_neg hy]
      rcases init with _ | ⟨p, q⟩
      · refine ⟨[], y :: last, rfl, ?_⟩
        by_cases h : x = c <;> simp [h]
      · refine ⟨(y :: p) :: q, last, rfl, ?_⟩
        by_cases h : x = c <;> simp [h]
theorem SO.set_last {w : World} {H n c b o : Nat} {init : List (List UInt8)} {x : List UInt8} (h : SO w H (some ⟨b, o, none⟩) n c (init ++ [x])) (y : List UInt8) :
    o = 0 ∧ H ≤ b ∧ w.cell? ⟨b, init.length, none⟩ = some (.string (str x)) ∧ w.frozen? ⟨b, init.length, none⟩ = false ∧ SO (w.setCell ⟨b, init.length, none⟩ (.string (str y))) H (some ⟨b, o, none⟩) n c (init ++ [y]) := by
  obtain ⟨hn, hlen, hr⟩ := h
  rcases hr with ⟨hv, _⟩ | ⟨g, cap, cur, hv, hb, hg, hnc, hcm, hsz, ht⟩
  · cases hv
  · injection hv with e1 e2 e3
    injection e1 with e1
    injection e1 with e4 e5
    subst e4 e5 e3
    obtain ⟨hc, hf⟩ := cells_of hg
    have hnl : n = init.length + 1 := by rw [hn]; simp
    have hcur : cur[init.length]? = some (.string (str x)) := by
      have h1 : (cur.toList.take (n * 1))[init.length]? = some (.string (str x)) := by rw [ht]; simp [sv]
      rw [List.getElem?_take_of_lt (by omega)] at h1
      simpa using h1
    refine ⟨rfl, hb, (hc _).trans hcur, hf _, by rw [hn]; simp, by simp [sv_length, hnl], .inr ⟨b, c, cur.setIfInBounds init.length (.string (str y)), rfl, hb, heap_set_cells hg _, hnc, hcm, by simpa using hsz, ?_⟩⟩
    rw [Array.toList_setIfInBounds, List.take_set, ht]
    simp [sv]
theorem str_get (s : List UInt8) (i : Nat) : ∀ pf, (str s)[i]'pf = s.getD i 0 := by
  intro pf
  have h : i < s.length := pf
  show s.toArray[i] = _
  simp [List.getD, h]
theorem str_one (s : List UInt8) (i : Nat) (h : i < s.length) : (str s).extract i (i + 1) = str [s.getD i 0] := by
  rw [extr, drop_get s i h]
  simp
theorem take_snoc (s : List UInt8) (i : Nat) (h : i < s.length) : s.take (i + 1) = s.take i ++ [s.getD i 0] := by
  rw [List.take_add_one, List.getElem?_eq_getElem h]
  simp [List.getD, h]

set_option maxRecDepth 100000 in
set_option maxHeartbeats 4000000 in
theorem rCut_any (w : World) (s : List UInt8) (c : UInt8) (hl : s.length ≤ 500) : Calls Tryd.prog 33 #[.string (str s), .int .u8 (c.toNat : Int)] w (PartsPost w (cutB c s)) := by
  have S0 : SO (w.alloc (.cells #[.string ⟨#[]⟩] 9)) w.heap.size (some ⟨w.heap.size, 0, none⟩) 1 1 [[]] := ⟨rfl, rfl, .inr ⟨w.heap.size, 1, _, rfl, Nat.le_refl _, heap_alloc_new w _, Nat.le_refl _, by simp [maxLen], rfl, rfl⟩⟩
  have b0 : Below w.heap.size w (w.alloc (.cells #[.string ⟨#[]⟩] 9)) := (Below.refl _ w).alloc (Nat.le_refl _) _
  have hss : (str s).size = s.length := rfl
  go_enter Tryd.func33, Tryd.ntmps33
  go_wp2_with fail
  generalize w.alloc (.cells #[.string ⟨#[]⟩] 9) = w1 at S0 b0 ⊢
  go_loopw [5, 6] (fun v iv wr => ∃ (A : Option Addr) (n cc i : Nat), v = .slice A n cc ∧ iv = .int .i64 i ∧ i ≤ s.length ∧ SO wr w.heap.size A n cc (cutB c (s.take i)) ∧ Below w.heap.size w wr) (fun _ iv _ => s.length - (intOf iv).toNat)
  case atStart => exact ⟨_, _, _, 0, rfl, rfl, Nat.zero_le _, S0, b0⟩
  case round =>
    obtain ⟨A, n, cc, i, rfl, rfl, hi, ho, hb⟩ := hrel
    clear S0 b0
    by_cases hlt : i < s.length
    · have hin : (0 : Int) ≤ (i : Int) ∧ (i : Int) < (s.length : Int) := ⟨by omega, by omega⟩
      have hget := str_get s i
      have hex := str_one s i hlt
      have htk := take_snoc s i hlt
      obtain ⟨x, hx⟩ : ∃ x, s.getD i 0 = x := ⟨_, rfl⟩
      rw [hx] at hget hex htk
      obtain ⟨init, last, hc1, hc2⟩ := cutB_snoc c x (s.take i)
      rw [← htk] at hc2
      rw [hc1] at ho
      have hll : init.length ≤ s.length := by
        have h1 := cutB_length c (s.take i)
        rw [hc1] at h1
        simp at h1
        omega
      have hlast : last.length ≤ 500 := by
        have h1 := cutB_mem c (s.take i) last (by rw [hc1]; simp)
        simp at h1
        omega
      have hz := hb.size
      by_cases hxc : x = c
      · have x1 : ((x.toNat : Int) == (c.toNat : Int)) = true := by rw [hxc]; exact beq_self_eq_true _
        have HC2 := Lib.hid (show cutB c (s.take (i + 1)) = init ++ [last, []] by rw [hc2, if_pos hxc]; simp)
        clear hx htk hc1 hc2 hex hxc
        go_wp2_with (at_builtin; go_must (refine appS rfl _ _ rfl w.heap.size A n cc (init ++ [last]) rfl (ho.alloc _) wr.heap.size 1 [] rfl ((cells_of (heap_alloc_new wr _)).1 0) (by simp) (by simp; omega) (by simp; omega) ?_))
        intro A' n' c' w' ho' hbw hg
        have hb3 := (hb.alloc hz _).trans hbw
        rw [← HC2.out] at ho'
        go_wp2_with fail
        go_roundw
        case rel => exact ⟨A', n', c', i + 1, rfl, by go_num, by omega, ho', hb3⟩
        case measure => simp [intOf]; omega
      · have x1 : ((x.toNat : Int) == (c.toNat : Int)) = false := by
          rw [beq_eq_false_iff_ne]
          intro e
          exact hxc (UInt8.toNat_inj.1 (by omega))
        have HC2 := Lib.hid (show cutB c (s.take (i + 1)) = init ++ [last ++ [x]] by rw [hc2, if_neg hxc])
        have hnn := ho.1
        obtain ⟨b, o, rfl, hbl, _⟩ := ho.at_ (k := 0) (s := (init ++ [last]).getD 0 []) (getD_some [] (by simp))
        obtain ⟨rfl, hHb, hcell, hfr, ho2⟩ := ho.set_last (last ++ [x])
        obtain ⟨k, hk⟩ : ∃ k, init.length = k := ⟨_, rfl⟩
        rw [hk] at hcell hfr ho2 hll
        have hnk : n = k + 1 := by rw [hnn]; simp [hk]
        subst hnk
        have sadd : ∀ w, (Op.stringOp .add (str last) (str [x])).run Tryd.prog w = .ok (.string (str (last ++ [x]))) w := fun w => str_add w last [x] (by simp; omega)
        obtain ⟨L, hL⟩ : ∃ L, last ++ [x] = L := ⟨_, rfl⟩
        rw [hL] at sadd ho2 HC2
        have HO2 := Lib.hid ho2
        have e1 : (k : Int) + 1 - 1 = (k : Int) := by omega
        have e2 : IntKind.i64.wrap (k : Int) = (k : Int) := IntWalk.i64_in _ (by omega)
        have e3 : IntKind.i64.wrap ((i : Int) + 1) = (i : Int) + 1 := IntWalk.i64_in _ (by omega)
        have e4 : ((i : Int) + 1).toNat = i + 1 := by omega
        have e5 : (0 : Int) ≤ (i : Int) + 1 ∧ (i : Int) + 1 ≤ (s.length : Int) := by omega
        have e6 : (0 : Int) ≤ (k : Int) ∧ (k : Int) < (k : Int) + 1 := by omega
        clear hx htk hc1 hc2 hxc ho ho2 hnn hL hk
        go_upto_region 7 with fail
        refine rg_begin (fun j => w.heap.size ≤ j) (by kernel_rfl) ?_
        refine rg_take (v := ?_) 0 rfl (by kernel_rfl) (by kernel_rfl) (by kernel_rfl) (fun _ _ _ h => h) (by rfl) ?_ ?_; rotate_left
        · (intro x hx; go_simp; first | done | with_reducible rfl | (rw [if_pos (by omega)]; try with_reducible rfl) | (rw [if_neg (by omega)]; try with_reducible rfl))
        try simp only [Act.put, List.setIfInBounds_toArray, List.set_cons_zero, List.set_cons_succ]
        refine rg_take (v := ?_) 1 rfl (by kernel_rfl) (by kernel_rfl) (by kernel_rfl) (fun _ _ _ h => h) (by rfl) ?_ ?_; rotate_left
        · (intro x hx; go_simp; first | done | with_reducible rfl | (rw [if_pos (by omega)]; try with_reducible rfl) | (rw [if_neg (by omega)]; try with_reducible rfl))
        try simp only [Act.put, List.setIfInBounds_toArray, List.set_cons_zero, List.set_cons_succ]
        refine rg_take (v := ?_) 2 rfl (by kernel_rfl) (by kernel_rfl) (by kernel_rfl) (fun _ _ _ h => h) (by rfl) ?_ ?_; rotate_left
        · (intro x hx; go_simp; first | done | with_reducible rfl | (rw [if_pos (by omega)]; try with_reducible rfl) | (rw [if_neg (by omega)]; try with_reducible rfl))
        try simp only [Act.put, List.setIfInBounds_toArray, List.set_cons_zero, List.set_cons_succ]
        refine rg_take (v := ?_) 3 rfl (by kernel_rfl) (by kernel_rfl) (by kernel_rfl) (fun _ _ _ h => h) (by rfl) ?_ ?_; rotate_left
        · (intro x hx; go_simp; first | done | with_reducible rfl | (rw [if_pos (by omega)]; try with_reducible rfl) | (rw [if_neg (by omega)]; try with_reducible rfl))
        try simp only [Act.put, List.setIfInBounds_toArray, List.set_cons_zero, List.set_cons_succ]
        refine rg_take (v := ?_) 4 rfl (by kernel_rfl) (by kernel_rfl) (by kernel_rfl) (fun _ _ _ h => h) (by rfl) ?_ ?_; rotate_left
        · (intro x hx; go_simp; first | done | with_reducible rfl | (rw [if_pos (by omega)]; try with_reducible rfl) | (rw [if_neg (by omega)]; try with_reducible rfl))
        try simp only [Act.put, List.setIfInBounds_toArray, List.set_cons_zero, List.set_cons_succ]
        refine rg_take (v := ?_) 5 rfl (by kernel_rfl) (by kernel_rfl) (by kernel_rfl) (fun _ _ _ h => h) (by rfl) ?_ ?_; rotate_left
        · (intro x hx; go_simp; first | done | with_reducible rfl | (rw [if_pos (by omega)]; try with_reducible rfl) | (rw [if_neg (by omega)]; try with_reducible rfl))
        try simp only [Act.put, List.setIfInBounds_toArray, List.set_cons_zero, List.set_cons_succ]
        refine rg_take (v := ?_) 6 rfl (by kernel_rfl) (by kernel_rfl) (by kernel_rfl) (fun _ _ _ h => h) (by rfl) ?_ ?_; rotate_left
        · (intro x hx; go_simp; first | done | with_reducible rfl | (rw [if_pos (by omega)]; try with_reducible rfl) | (rw [if_neg (by omega)]; try with_reducible rfl))
        try simp only [Act.put, List.setIfInBounds_toArray, List.set_cons_zero, List.set_cons_succ]
        refine rg_take (v := ?_) 7 rfl (by kernel_rfl) (by kernel_rfl) (by kernel_rfl) (fun _ _ _ h => h) (by rfl) ?_ ?_; rotate_left
        · (intro x hx; go_simp; first | done | with_reducible rfl | (rw [if_pos (by omega)]; try with_reducible rfl) | (rw [if_neg (by omega)]; try with_reducible rfl))
        try simp only [Act.put, List.setIfInBounds_toArray, List.set_cons_zero, List.set_cons_succ]
        refine rg_take (v := ?_) 8 rfl (by kernel_rfl) (by kernel_rfl) (by kernel_rfl) (fun _ _ _ h => h) (by rfl) ?_ ?_; rotate_left
        · (intro x hx; go_simp; first | done | with_reducible rfl | (rw [if_pos (by omega)]; try with_reducible rfl) | (rw [if_neg (by omega)]; try with_reducible rfl))
        try simp only [Act.put, List.setIfInBounds_toArray, List.set_cons_zero, List.set_cons_succ]
        refine rg_take (v := ?_) 10 rfl (by kernel_rfl) (by kernel_rfl) (by kernel_rfl) (fun _ _ _ h => h) (by rfl) ?_ ?_; rotate_left
        · (intro x hx; go_simp; first | done | with_reducible rfl | (rw [if_pos (by omega)]; try with_reducible rfl) | (rw [if_neg (by omega)]; try with_reducible rfl))
        try simp only [Act.put, List.setIfInBounds_toArray, List.set_cons_zero, List.set_cons_succ]
        refine rg_take (v := ?_) 11 rfl (by kernel_rfl) (by kernel_rfl) (by kernel_rfl) (fun _ _ _ h => h) (by rfl) ?_ ?_; rotate_left
        · (intro x hx; go_simp; first | done | with_reducible rfl | (rw [if_pos (by omega)]; try with_reducible rfl) | (rw [if_neg (by omega)]; try with_reducible rfl))
        try simp only [Act.put, List.setIfInBounds_toArray, List.set_cons_zero, List.set_cons_succ]
        refine rg_take (v := ?_) 12 rfl (by kernel_rfl) (by kernel_rfl) (by kernel_rfl) (fun _ _ _ h => h) (by rfl) ?_ ?_; rotate_left
        · (intro x hx; go_simp; first | done | with_reducible rfl | (rw [if_pos (by omega)]; try with_reducible rfl) | (rw [if_neg (by omega)]; try with_reducible rfl))
        try simp only [Act.put, List.setIfInBounds_toArray, List.set_cons_zero, List.set_cons_succ]
        refine rg_take (v := ?_) 13 rfl (by kernel_rfl) (by kernel_rfl) (by kernel_rfl) (fun _ _ _ h => h) (by rfl) ?_ ?_; rotate_left
        · (intro x hx; go_simp; first | done | with_reducible rfl | (rw [if_pos (by omega)]; try with_reducible rfl) | (rw [if_neg (by omega)]; try with_reducible rfl))
        try simp only [Act.put, List.setIfInBounds_toArray, List.set_cons_zero, List.set_cons_succ]
        refine rg_take (v := ?_) 14 rfl (by kernel_rfl) (by kernel_rfl) (by kernel_rfl) (fun _ _ _ h => h) (by rfl) ?_ ?_; rotate_left
        · (intro x hx; go_simp; first | done | with_reducible rfl | (rw [if_pos (by omega)]; try with_reducible rfl) | (rw [if_neg (by omega)]; try with_reducible rfl))
        try simp only [Act.put, List.setIfInBounds_toArray, List.set_cons_zero, List.set_cons_succ]
        refine rg_step 9 rfl (by kernel_rfl) (by rfl) (fun K hK => ?_)
        go_simp
        refine hK.out _ _ (Ext.refl _ _) ?_
        clear hK K; try simp only [Act.put, List.setIfInBounds_toArray, List.set_cons_zero, List.set_cons_succ]
        refine rg_take (v := ?_) 15 rfl (by kernel_rfl) (by kernel_rfl) (by kernel_rfl) (fun _ _ _ h => h) (by rfl) ?_ ?_; rotate_left
        · (intro x hx; go_simp; first | done | with_reducible rfl | (rw [if_pos (by omega)]; try with_reducible rfl) | (rw [if_neg (by omega)]; try with_reducible rfl))
        try simp only [Act.put, List.setIfInBounds_toArray, List.set_cons_zero, List.set_cons_succ]
        refine rg_take (v := ?_) 16 rfl (by kernel_rfl) (by kernel_rfl) (by kernel_rfl) (fun _ _ _ h => h) (by rfl) ?_ ?_; rotate_left
        · (intro x hx; go_simp; first | done | with_reducible rfl | (rw [if_pos (by omega)]; try with_reducible rfl) | (rw [if_neg (by omega)]; try with_reducible rfl))
        try simp only [Act.put, List.setIfInBounds_toArray, List.set_cons_zero, List.set_cons_succ]
        refine rg_step 17 rfl (by kernel_rfl) (by rfl) (fun K hK => ?_)
        go_simp
        refine hK.out _ _ ((Ext.refl _ _).set (.inr hHb) _) ?_
        clear hK K
        refine rg_done (by kernel_rfl) ?_
        go_wp2_with fail
        have ho2 := HO2.out
        rw [← HC2.out] at ho2
        go_roundw
        case rel => exact ⟨_, k + 1, cc, i + 1, by go_num, by go_num, by omega, ho2, ((Ext.of_below (fun _ => False) hb.drew (by intros; omega)).set (.inl hHb) _).below (Nat.le_refl _) (by simp)⟩
        case measure => simp [intOf]; omega
    · obtain rfl : i = s.length := by omega
      rw [List.take_length] at ho
      go_wp2_with fail
      go_ret
      exact ⟨A, n, cc, rfl, ho, hb⟩
end Go.Proofs.YtabmgggmailomaaDoor
