/-
  The reference's in, Group, inner.
-/
import Derived.Test.YtnmdiageigbphaaGreatDoorNq2
import Derived.Test.YtnmdiageigbphaaGreatDoorKq15
namespace Go.Proofs.YtnmdiageigbphaaGreatDoor
open Go.RowKit

theorem rin_any (w : World) (v lo hi : Int) : Calls Tryz.prog 44 #[.int .i64 v, .int .i64 lo, .int .i64 hi] w (fun e w' => e = .returned (.bool (inR v lo hi)) ∧ w' = w) := by
  have H : inR v lo hi = (decide (lo ≤ v) && decide (v ≤ hi)) := rfl
  obtain ⟨r, hr⟩ : ∃ r, inR v lo hi = r := ⟨_, rfl⟩
  rw [hr] at H ⊢
  have HR := Lib.hid H
  clear H hr
  rcases Int.lt_or_le v lo with h1 | h1
  · have d1 : decide (lo ≤ v) = false := decide_eq_false (by omega)
    go_enter Tryz.func44, Tryz.ntmps44
    go_wp2_with fail
    go_ret
    exact ⟨by rw [HR.out, d1]; rfl, rfl⟩
  have d1 : decide (lo ≤ v) = true := decide_eq_true h1
  rcases Int.lt_or_le hi v with h2 | h2
  · have d2 : decide (v ≤ hi) = false := decide_eq_false (by omega)
    go_enter Tryz.func44, Tryz.ntmps44
    go_wp2_with fail
    go_ret
    exact ⟨by rw [HR.out, d1]; rw [d2]; rfl, rfl⟩
  · have d2 : decide (v ≤ hi) = true := decide_eq_true h2
    go_enter Tryz.func44, Tryz.ntmps44
    go_wp2_with fail
    go_ret
    exact ⟨by rw [HR.out, d1]; rw [d2]; rfl, rfl⟩
set_option maxRecDepth 100000 in
theorem rgroup_any (w : World) (m : Mac6) : Calls Tryz.prog 46 #[macV m] w (fun e w' => e = .returned (.bool (grpB m)) ∧ Below w.heap.size w w') := by
  have hx := m.a.toNat_lt
  have e1 : (m.a.toNat : Int) % 2 = ((m.a.toNat % 2 : Nat) : Int) := by omega
  have e2 : (m.a.toNat : Int).tmod 2 = ((m.a.toNat % 2 : Nat) : Int) := by rw [Int.tmod_eq_emod_of_nonneg (by omega)]; omega
  have HR := Lib.hid (show (((m.a.toNat % 2 : Nat) : Int) == 1) = grpB m by rw [grpB, Bool.eq_iff_iff]; simp; omega)
  obtain ⟨k, hk⟩ : ∃ k, m.a.toNat % 2 = k := ⟨_, rfl⟩
  rw [hk] at e1 e2 HR
  have P0 := heap_alloc_new w (.cells (maC m) 28)
  have b0 : Below w.heap.size w (w.alloc (.cells (maC m) 28)) := (Below.refl _ w).alloc (Nat.le_refl _) _
  have c0 := (cells_of P0).1 0
  clear hx hk
  go_enter Tryz.func46, Tryz.ntmps46
  go_upto_region 1 with fail
  generalize w.alloc (.cells (maC m) 28) = w1 at P0 b0 c0 ⊢
  go_wp2_with fail
  go_ret
  exact ⟨by rw [← HR.out]; rfl, b0⟩
set_option maxRecDepth 100000 in
set_option maxHeartbeats 4000000 in
theorem rinner_any (w : World) (c : Cf) (vf vo : Value) (a : Ad4) : Calls Tryz.prog 45 #[.agg (cfC c vf vo), adV a] w (fun e w' => e = .returned (.bool (inB c a)) ∧ Below w.heap.size w w') := by
  have hB : inB c a = (hasN (numA a) (numA c.lanA) (behN c.lanB) && !adeq a (firstA c.lanA c.lanB) && !adeq a (lastA c.lanA c.lanB)) := rfl
  obtain ⟨t1, h1⟩ : ∃ b, hasN (numA a) (numA c.lanA) (behN c.lanB) = b := ⟨_, rfl⟩
  have E1 := Lib.hid h1
  have n2 := fun w => run_neq_ad w a (firstA c.lanA c.lanB)
  have n3 := fun w => run_neq_ad w a (lastA c.lanA c.lanB)
  obtain ⟨af, hf⟩ : ∃ b, firstA c.lanA c.lanB = b := ⟨_, rfl⟩
  obtain ⟨al, hl⟩ : ∃ b, lastA c.lanA c.lanB = b := ⟨_, rfl⟩
  have EF := Lib.hid hf
  have EL := Lib.hid hl
  rw [hf] at n2 hB
  rw [hl] at n3 hB
  obtain ⟨t2, h2⟩ : ∃ b, (!adeq a af) = b := ⟨_, rfl⟩
  obtain ⟨t3, h3⟩ : ∃ b, (!adeq a al) = b := ⟨_, rfl⟩
  rw [h1, h2, h3] at hB
  simp only [h2] at n2
  simp only [h3] at n3
  have HB := Lib.hid hB
  clear h1 hf hl h2 h3 hB
  have P0 : ((w.alloc (.cells (cfC c vf vo) 40)).alloc (.cells (adC a) 24)).heap[w.heap.size]? = some (.cells (cfC c vf vo) 40 (0, 0)) := heap_alloc_of (heap_alloc_new w _)
  have A0 : ((w.alloc (.cells (cfC c vf vo) 40)).alloc (.cells (adC a) 24)).heap[w.heap.size + 1]? = some (.cells (adC a) 24 (0, 0)) := heap_alloc_at (by simp)
  have b0 : Below w.heap.size w ((w.alloc (.cells (cfC c vf vo) 40)).alloc (.cells (adC a) 24)) := ((Below.refl _ w).alloc (Nat.le_refl _) _).alloc (by simp) _
  go_enter Tryz.func45, Tryz.ntmps45
  go_upto_region 1 with fail
  generalize (w.alloc (.cells (cfC c vf vo) 40)).alloc (.cells (adC a) 24) = w1 at P0 A0 b0 ⊢
  obtain ⟨g, hg⟩ : ∃ g, w.heap.size = g := ⟨_, rfl⟩
  rw [hg] at P0 A0 ⊢
  have HG := Lib.hid hg
  clear hg
  have r0 : Below w1.heap.size w1 w1.drew := (Below.refl _ _).drew
  have f0 := Ext.cells (w := w1.drew) (M := fun _ => False) P0 (fun h => h)
  have CA := Ext.at_ (M := fun _ => False) (w := w1.drew) A0 (fun h => h)
  refine rg_begin (fun _ => False) (by kernel_rfl) ?_
  refine rg_take (v := ?_) 0 rfl (by kernel_rfl) (by kernel_rfl) (by kernel_rfl) (fun _ _ _ h => h) (by rfl) ?_ ?_; rotate_left
  · (intro x hx; go_simp; first | done | with_reducible rfl | (rw [if_pos (by omega)]; try with_reducible rfl) | (rw [if_neg (by omega)]; try with_reducible rfl))
  try simp only [Act.put, List.setIfInBounds_toArray, List.set_cons_zero, List.set_cons_succ]
  refine rg_take (v := ?_) 1 rfl (by kernel_rfl) (by kernel_rfl) (by kernel_rfl) (fun _ _ _ h => h) (by rfl) ?_ ?_; rotate_left
  · (intro x hx; go_simp; first | done | with_reducible rfl | (rw [if_pos (by omega)]; try with_reducible rfl) | (rw [if_neg (by omega)]; try with_reducible rfl))
  try simp only [Act.put, List.setIfInBounds_toArray, List.set_cons_zero, List.set_cons_succ]
  refine rg_take (v := .agg (adC a)) 2 rfl (by kernel_rfl) (by kernel_rfl) (by kernel_rfl) (fun _ _ _ h => h) (by rfl) ?_ ?_
  · (intro x hx; apply run_load_big; (case ho => exact rfl); (case hv => exact rfl); (case hg => exact CA x hx); (case hu => exact Tryz.underlying24); (case hd => rfl); (case hi => kernel_rfl))
  try simp only [Act.put, List.setIfInBounds_toArray, List.set_cons_zero, List.set_cons_succ]
  refine rg_step 3 rfl (by kernel_rfl) (by rfl) (fun K hK => ?_)
  go_simp
  refine (rhas_any _ c.lanA c.lanB a).mono ?_
  rw [E1.out]
  rintro e u1 ⟨rfl, p1⟩
  have r1 := r0.trans (p1.mono r0.size)
  have f0 := Ext.cells (w := u1) (M := fun _ => False) (below_at r1 P0 (heap_lt P0)) (fun h => h)
  have CA := Ext.at_ (M := fun _ => False) (w := u1) (below_at r1 A0 (heap_lt A0)) (fun h => h)
  refine hK.out _ _ (Ext.below_all _ p1) ?_
  clear hK K; try simp only [Act.put, List.setIfInBounds_toArray, List.set_cons_zero, List.set_cons_succ]
  refine rg_take (v := ?_) 4 rfl (by kernel_rfl) (by kernel_rfl) (by kernel_rfl) (fun _ _ _ h => h) (by rfl) ?_ ?_; rotate_left
  · (intro x hx; go_simp; first | done | with_reducible rfl | (rw [if_pos (by omega)]; try with_reducible rfl) | (rw [if_neg (by omega)]; try with_reducible rfl))
  try simp only [Act.put, List.setIfInBounds_toArray, List.set_cons_zero, List.set_cons_succ]
  rcases t1 with _ | _
  · refine rg_skip 5 rfl (by kernel_rfl) (by kernel_rfl) (by kernel_rfl) (fun _ _ _ h => h) (by rfl) ?_; simp only [Act.put, List.setIfInBounds_toArray, List.set_cons_zero, List.set_cons_succ]
    refine rg_skip 6 rfl (by kernel_rfl) (by kernel_rfl) (by kernel_rfl) (fun _ _ _ h => h) (by rfl) ?_; simp only [Act.put, List.setIfInBounds_toArray, List.set_cons_zero, List.set_cons_succ]
    refine rg_skip 7 rfl (by kernel_rfl) (by kernel_rfl) (by kernel_rfl) (fun _ _ _ h => h) (by rfl) ?_; simp only [Act.put, List.setIfInBounds_toArray, List.set_cons_zero, List.set_cons_succ]
    refine rg_skip 8 rfl (by kernel_rfl) (by kernel_rfl) (by kernel_rfl) (fun _ _ _ h => h) (by rfl) ?_; simp only [Act.put, List.setIfInBounds_toArray, List.set_cons_zero, List.set_cons_succ]
    refine rg_skip 9 rfl (by kernel_rfl) (by kernel_rfl) (by kernel_rfl) (fun _ _ _ h => h) (by rfl) ?_; simp only [Act.put, List.setIfInBounds_toArray, List.set_cons_zero, List.set_cons_succ]
    refine rg_take (v := ?_) 10 rfl (by kernel_rfl) (by kernel_rfl) (by kernel_rfl) (fun _ _ _ h => h) (by rfl) ?_ ?_; rotate_left
    · (intro x hx; go_simp; first | done | with_reducible rfl | (rw [if_pos (by omega)]; try with_reducible rfl) | (rw [if_neg (by omega)]; try with_reducible rfl))
    try simp only [Act.put, List.setIfInBounds_toArray, List.set_cons_zero, List.set_cons_succ]
    refine rg_take (v := ?_) 11 rfl (by kernel_rfl) (by kernel_rfl) (by kernel_rfl) (fun _ _ _ h => h) (by rfl) ?_ ?_; rotate_left
    · (intro x hx; go_simp; first | done | with_reducible rfl | (rw [if_pos (by omega)]; try with_reducible rfl) | (rw [if_neg (by omega)]; try with_reducible rfl))
    try simp only [Act.put, List.setIfInBounds_toArray, List.set_cons_zero, List.set_cons_succ]
    refine rg_skip 12 rfl (by kernel_rfl) (by kernel_rfl) (by kernel_rfl) (fun _ _ _ h => h) (by rfl) ?_; simp only [Act.put, List.setIfInBounds_toArray, List.set_cons_zero, List.set_cons_succ]
    refine rg_skip 13 rfl (by kernel_rfl) (by kernel_rfl) (by kernel_rfl) (fun _ _ _ h => h) (by rfl) ?_; simp only [Act.put, List.setIfInBounds_toArray, List.set_cons_zero, List.set_cons_succ]
    refine rg_skip 14 rfl (by kernel_rfl) (by kernel_rfl) (by kernel_rfl) (fun _ _ _ h => h) (by rfl) ?_; simp only [Act.put, List.setIfInBounds_toArray, List.set_cons_zero, List.set_cons_succ]
    refine rg_skip 15 rfl (by kernel_rfl) (by kernel_rfl) (by kernel_rfl) (fun _ _ _ h => h) (by rfl) ?_; simp only [Act.put, List.setIfInBounds_toArray, List.set_cons_zero, List.set_cons_succ]
    refine rg_skip 16 rfl (by kernel_rfl) (by kernel_rfl) (by kernel_rfl) (fun _ _ _ h => h) (by rfl) ?_; simp only [Act.put, List.setIfInBounds_toArray, List.set_cons_zero, List.set_cons_succ]
    refine rg_take (v := ?_) 17 rfl (by kernel_rfl) (by kernel_rfl) (by kernel_rfl) (fun _ _ _ h => h) (by rfl) ?_ ?_; rotate_left
    · (intro x hx; go_simp; first | done | with_reducible rfl | (rw [if_pos (by omega)]; try with_reducible rfl) | (rw [if_neg (by omega)]; try with_reducible rfl))
    try simp only [Act.put, List.setIfInBounds_toArray, List.set_cons_zero, List.set_cons_succ]
    refine rg_take (v := ?_) 18 rfl (by kernel_rfl) (by kernel_rfl) (by kernel_rfl) (fun _ _ _ h => h) (by rfl) ?_ ?_; rotate_left
    · (intro x hx; go_simp; first | done | with_reducible rfl | (rw [if_pos (by omega)]; try with_reducible rfl) | (rw [if_neg (by omega)]; try with_reducible rfl))
    try simp only [Act.put, List.setIfInBounds_toArray, List.set_cons_zero, List.set_cons_succ]
    refine rg_done (by kernel_rfl) ?_
    --TAIL
    go_wp2_with fail
    go_ret
    refine ⟨by rw [HB.out]; first | rfl | simp, ?_⟩
    have := HG.out
    subst this
    exact b0.trans (r1.mono b0.size)
  · refine rg_take (v := .agg (adC a)) 5 rfl (by kernel_rfl) (by kernel_rfl) (by kernel_rfl) (fun _ _ _ h => h) (by rfl) ?_ ?_
    · (intro x hx; apply run_load_big; (case ho => exact rfl); (case hv => exact rfl); (case hg => exact CA x hx); (case hu => exact Tryz.underlying24); (case hd => rfl); (case hi => kernel_rfl))
    try simp only [Act.put, List.setIfInBounds_toArray, List.set_cons_zero, List.set_cons_succ]
    refine rg_take (v := ?_) 6 rfl (by kernel_rfl) (by kernel_rfl) (by kernel_rfl) (fun _ _ _ h => h) (by rfl) ?_ ?_; rotate_left
    · (intro x hx; go_simp; first | done | with_reducible rfl | (rw [if_pos (by omega)]; try with_reducible rfl) | (rw [if_neg (by omega)]; try with_reducible rfl))
    try simp only [Act.put, List.setIfInBounds_toArray, List.set_cons_zero, List.set_cons_succ]
    refine rg_take (v := ?_) 7 rfl (by kernel_rfl) (by kernel_rfl) (by kernel_rfl) (fun _ _ _ h => h) (by rfl) ?_ ?_; rotate_left
    · (intro x hx; go_simp; first | done | with_reducible rfl | (rw [if_pos (by omega)]; try with_reducible rfl) | (rw [if_neg (by omega)]; try with_reducible rfl))
    try simp only [Act.put, List.setIfInBounds_toArray, List.set_cons_zero, List.set_cons_succ]
    refine rg_step 8 rfl (by kernel_rfl) (by rfl) (fun K hK => ?_)
    go_simp
    refine (rfirst_any _ c.lanA c.lanB).mono ?_
    rw [EF.out]
    rintro e u1 ⟨rfl, p1⟩
    replace r1 := r1.trans (p1.mono r1.size)
    have f0 := Ext.cells (w := u1) (M := fun _ => False) (below_at r1 P0 (heap_lt P0)) (fun h => h)
    have CA := Ext.at_ (M := fun _ => False) (w := u1) (below_at r1 A0 (heap_lt A0)) (fun h => h)
    refine hK.out _ _ (Ext.below_all _ p1) ?_
    clear hK K; try simp only [Act.put, List.setIfInBounds_toArray, List.set_cons_zero, List.set_cons_succ]
    refine rg_take (v := ?_) 9 rfl (by kernel_rfl) (by kernel_rfl) (by kernel_rfl) (fun _ _ _ h => h) (by rfl) ?_ ?_; rotate_left
    · (intro x hx; go_simp; first | done | with_reducible rfl | (rw [if_pos (by omega)]; try with_reducible rfl) | (rw [if_neg (by omega)]; try with_reducible rfl))
    try simp only [Act.put, List.setIfInBounds_toArray, List.set_cons_zero, List.set_cons_succ]
    refine rg_take (v := ?_) 10 rfl (by kernel_rfl) (by kernel_rfl) (by kernel_rfl) (fun _ _ _ h => h) (by rfl) ?_ ?_; rotate_left
    · (intro x hx; go_simp; first | done | with_reducible rfl | (rw [if_pos (by omega)]; try with_reducible rfl) | (rw [if_neg (by omega)]; try with_reducible rfl))
    try simp only [Act.put, List.setIfInBounds_toArray, List.set_cons_zero, List.set_cons_succ]
    refine rg_take (v := ?_) 11 rfl (by kernel_rfl) (by kernel_rfl) (by kernel_rfl) (fun _ _ _ h => h) (by rfl) ?_ ?_; rotate_left
    · (intro x hx; go_simp; first | done | with_reducible rfl | (rw [if_pos (by omega)]; try with_reducible rfl) | (rw [if_neg (by omega)]; try with_reducible rfl))
    try simp only [Act.put, List.setIfInBounds_toArray, List.set_cons_zero, List.set_cons_succ]
    rcases t2 with _ | _
    · refine rg_skip 12 rfl (by kernel_rfl) (by kernel_rfl) (by kernel_rfl) (fun _ _ _ h => h) (by rfl) ?_; simp only [Act.put, List.setIfInBounds_toArray, List.set_cons_zero, List.set_cons_succ]
      refine rg_skip 13 rfl (by kernel_rfl) (by kernel_rfl) (by kernel_rfl) (fun _ _ _ h => h) (by rfl) ?_; simp only [Act.put, List.setIfInBounds_toArray, List.set_cons_zero, List.set_cons_succ]
      refine rg_skip 14 rfl (by kernel_rfl) (by kernel_rfl) (by kernel_rfl) (fun _ _ _ h => h) (by rfl) ?_; simp only [Act.put, List.setIfInBounds_toArray, List.set_cons_zero, List.set_cons_succ]
      refine rg_skip 15 rfl (by kernel_rfl) (by kernel_rfl) (by kernel_rfl) (fun _ _ _ h => h) (by rfl) ?_; simp only [Act.put, List.setIfInBounds_toArray, List.set_cons_zero, List.set_cons_succ]
      refine rg_skip 16 rfl (by kernel_rfl) (by kernel_rfl) (by kernel_rfl) (fun _ _ _ h => h) (by rfl) ?_; simp only [Act.put, List.setIfInBounds_toArray, List.set_cons_zero, List.set_cons_succ]
      refine rg_take (v := ?_) 17 rfl (by kernel_rfl) (by kernel_rfl) (by kernel_rfl) (fun _ _ _ h => h) (by rfl) ?_ ?_; rotate_left
      · (intro x hx; go_simp; first | done | with_reducible rfl | (rw [if_pos (by omega)]; try with_reducible rfl) | (rw [if_neg (by omega)]; try with_reducible rfl))
      try simp only [Act.put, List.setIfInBounds_toArray, List.set_cons_zero, List.set_cons_succ]
      refine rg_take (v := ?_) 18 rfl (by kernel_rfl) (by kernel_rfl) (by kernel_rfl) (fun _ _ _ h => h) (by rfl) ?_ ?_; rotate_left
      · (intro x hx; go_simp; first | done | with_reducible rfl | (rw [if_pos (by omega)]; try with_reducible rfl) | (rw [if_neg (by omega)]; try with_reducible rfl))
      try simp only [Act.put, List.setIfInBounds_toArray, List.set_cons_zero, List.set_cons_succ]
      refine rg_done (by kernel_rfl) ?_
      --TAIL
      go_wp2_with fail
      go_ret
      refine ⟨by rw [HB.out]; first | rfl | simp, ?_⟩
      have := HG.out
      subst this
      exact b0.trans (r1.mono b0.size)
    · refine rg_take (v := .agg (adC a)) 12 rfl (by kernel_rfl) (by kernel_rfl) (by kernel_rfl) (fun _ _ _ h => h) (by rfl) ?_ ?_
      · (intro x hx; apply run_load_big; (case ho => exact rfl); (case hv => exact rfl); (case hg => exact CA x hx); (case hu => exact Tryz.underlying24); (case hd => rfl); (case hi => kernel_rfl))
      try simp only [Act.put, List.setIfInBounds_toArray, List.set_cons_zero, List.set_cons_succ]
      refine rg_take (v := ?_) 13 rfl (by kernel_rfl) (by kernel_rfl) (by kernel_rfl) (fun _ _ _ h => h) (by rfl) ?_ ?_; rotate_left
      · (intro x hx; go_simp; first | done | with_reducible rfl | (rw [if_pos (by omega)]; try with_reducible rfl) | (rw [if_neg (by omega)]; try with_reducible rfl))
      try simp only [Act.put, List.setIfInBounds_toArray, List.set_cons_zero, List.set_cons_succ]
      refine rg_take (v := ?_) 14 rfl (by kernel_rfl) (by kernel_rfl) (by kernel_rfl) (fun _ _ _ h => h) (by rfl) ?_ ?_; rotate_left
      · (intro x hx; go_simp; first | done | with_reducible rfl | (rw [if_pos (by omega)]; try with_reducible rfl) | (rw [if_neg (by omega)]; try with_reducible rfl))
      try simp only [Act.put, List.setIfInBounds_toArray, List.set_cons_zero, List.set_cons_succ]
      refine rg_step 15 rfl (by kernel_rfl) (by rfl) (fun K hK => ?_)
      go_simp
      refine (rlast_any _ c.lanA c.lanB).mono ?_
      rw [EL.out]
      rintro e u1 ⟨rfl, p1⟩
      replace r1 := r1.trans (p1.mono r1.size)
      refine hK.out _ _ (Ext.below_all _ p1) ?_
      clear hK K; try simp only [Act.put, List.setIfInBounds_toArray, List.set_cons_zero, List.set_cons_succ]
      refine rg_take (v := ?_) 16 rfl (by kernel_rfl) (by kernel_rfl) (by kernel_rfl) (fun _ _ _ h => h) (by rfl) ?_ ?_; rotate_left
      · (intro x hx; go_simp; first | done | with_reducible rfl | (rw [if_pos (by omega)]; try with_reducible rfl) | (rw [if_neg (by omega)]; try with_reducible rfl))
      try simp only [Act.put, List.setIfInBounds_toArray, List.set_cons_zero, List.set_cons_succ]
      refine rg_take (v := ?_) 17 rfl (by kernel_rfl) (by kernel_rfl) (by kernel_rfl) (fun _ _ _ h => h) (by rfl) ?_ ?_; rotate_left
      · (intro x hx; go_simp; first | done | with_reducible rfl | (rw [if_pos (by omega)]; try with_reducible rfl) | (rw [if_neg (by omega)]; try with_reducible rfl))
      try simp only [Act.put, List.setIfInBounds_toArray, List.set_cons_zero, List.set_cons_succ]
      refine rg_take (v := ?_) 18 rfl (by kernel_rfl) (by kernel_rfl) (by kernel_rfl) (fun _ _ _ h => h) (by rfl) ?_ ?_; rotate_left
      · (intro x hx; go_simp; first | done | with_reducible rfl | (rw [if_pos (by omega)]; try with_reducible rfl) | (rw [if_neg (by omega)]; try with_reducible rfl))
      try simp only [Act.put, List.setIfInBounds_toArray, List.set_cons_zero, List.set_cons_succ]
      refine rg_done (by kernel_rfl) ?_
      --TAIL
      go_wp2_with fail
      go_ret
      refine ⟨by rw [HB.out]; first | rfl | simp, ?_⟩
      have := HG.out
      subst this
      exact b0.trans (r1.mono b0.size)
end Go.Proofs.YtnmdiageigbphaaGreatDoor
