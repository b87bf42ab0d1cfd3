/-
  conf: pool, times.
-/
import Derived.Test.YtnmdiageigbphaaDoorKp13
namespace Go.Proofs.YtnmdiageigbphaaDoor
open Go.RowKit

def poolB (c : Cf) : Bool := inB c c.fst && inB c c.lst && decide (numA c.fst ≤ numA c.lst) && decide (numA c.lst < numA c.fst + 64) && (decide (numA c.own < numA c.fst) || decide (numA c.lst < numA c.own))
set_option maxRecDepth 100000 in
set_option maxHeartbeats 4000000 in
theorem pool_any (w : World) (c : Cf) (vf vo : Value) : Calls Tryd.prog 29 #[.agg (cfC c vf vo)] w (fun e w' => e = .returned (.bool (poolB c)) ∧ Below w.heap.size w w') := by
  have hB : poolB c = (inB c c.fst && inB c c.lst && decide (numA c.fst ≤ numA c.lst) && decide (numA c.lst < numA c.fst + 64) && (decide (numA c.own < numA c.fst) || decide (numA c.lst < numA c.own))) := rfl
  have hfm := numA_lt c.fst
  have hlm := numA_lt c.lst
  obtain ⟨t1, h1⟩ : ∃ b, inB c c.fst = b := ⟨_, rfl⟩
  obtain ⟨t2, h2⟩ : ∃ b, inB c c.lst = b := ⟨_, rfl⟩
  obtain ⟨nf, hnf⟩ : ∃ n, numA c.fst = n := ⟨_, rfl⟩
  obtain ⟨nl, hnl⟩ : ∃ n, numA c.lst = n := ⟨_, rfl⟩
  obtain ⟨no, hno⟩ : ∃ n, numA c.own = n := ⟨_, rfl⟩
  rw [h1, h2, hnf, hnl, hno] at hB
  rw [hnf] at hfm
  rw [hnl] at hlm
  have E1 := Lib.hid h1
  have E2 := Lib.hid h2
  have NF := Lib.hid hnf
  have NL := Lib.hid hnl
  have NO := Lib.hid hno
  have HB := Lib.hid hB
  clear h1 h2 hnf hnl hno hB
  have P0 := heap_alloc_new w (.cells (cfC c vf vo) 34)
  have b0 : Below w.heap.size w (w.alloc (.cells (cfC c vf vo) 34)) := (Below.refl _ w).alloc (Nat.le_refl _) _
  go_enter Tryd.func29, Tryd.ntmps29
  go_upto_region 1 with fail
  generalize w.alloc (.cells (cfC c vf vo) 34) = w1 at P0 b0 ⊢
  obtain ⟨g, hg⟩ : ∃ g, w.heap.size = g := ⟨_, rfl⟩
  rw [hg] at P0 ⊢
  have HG := Lib.hid hg
  clear hg
  have r0 : Below w1.heap.size w1 w1.drew := (Below.refl _ _).drew
  have f0 := Ext.cells (w := w1.drew) (M := fun _ => False) P0 (fun h => h)
  refine rg_begin (fun _ => False) (by kernel_rfl) ?_
  refine rg_take (v := ?_) 0 rfl (by kernel_rfl) (by kernel_rfl) (by kernel_rfl) (fun _ _ _ h => h) (by rfl) ?_ ?_; rotate_left
  · (intro x hx; go_simp; first | done | with_reducible rfl | (rw [if_pos (by omega)]; try with_reducible rfl) | (rw [if_neg (by omega)]; try with_reducible rfl))
  try simp only [Act.put, List.setIfInBounds_toArray, List.set_cons_zero, List.set_cons_succ]
  refine rg_take (v := ?_) 1 rfl (by kernel_rfl) (by kernel_rfl) (by kernel_rfl) (fun _ _ _ h => h) (by rfl) ?_ ?_; rotate_left
  · (intro x hx; go_simp; first | done | with_reducible rfl | (rw [if_pos (by omega)]; try with_reducible rfl) | (rw [if_neg (by omega)]; try with_reducible rfl))
  try simp only [Act.put, List.setIfInBounds_toArray, List.set_cons_zero, List.set_cons_succ]
  refine rg_take (v := ?_) 3 rfl (by kernel_rfl) (by kernel_rfl) (by kernel_rfl) (fun _ _ _ h => h) (by rfl) ?_ ?_; rotate_left
  · (intro x hx; go_simp; first | done | with_reducible rfl | (rw [if_pos (by omega)]; try with_reducible rfl) | (rw [if_neg (by omega)]; try with_reducible rfl))
  try simp only [Act.put, List.setIfInBounds_toArray, List.set_cons_zero, List.set_cons_succ]
  refine rg_take (v := ?_) 4 rfl (by kernel_rfl) (by kernel_rfl) (by kernel_rfl) (fun _ _ _ h => h) (by rfl) ?_ ?_; rotate_left
  · (intro x hx; go_simp; first | done | with_reducible rfl | (rw [if_pos (by omega)]; try with_reducible rfl) | (rw [if_neg (by omega)]; try with_reducible rfl))
  try simp only [Act.put, List.setIfInBounds_toArray, List.set_cons_zero, List.set_cons_succ]
  refine rg_take (v := ?_) 6 rfl (by kernel_rfl) (by kernel_rfl) (by kernel_rfl) (fun _ _ _ h => h) (by rfl) ?_ ?_; rotate_left
  · (intro x hx; go_simp; first | done | with_reducible rfl | (rw [if_pos (by omega)]; try with_reducible rfl) | (rw [if_neg (by omega)]; try with_reducible rfl))
  try simp only [Act.put, List.setIfInBounds_toArray, List.set_cons_zero, List.set_cons_succ]
  refine rg_take (v := ?_) 7 rfl (by kernel_rfl) (by kernel_rfl) (by kernel_rfl) (fun _ _ _ h => h) (by rfl) ?_ ?_; rotate_left
  · (intro x hx; go_simp; first | done | with_reducible rfl | (rw [if_pos (by omega)]; try with_reducible rfl) | (rw [if_neg (by omega)]; try with_reducible rfl))
  try simp only [Act.put, List.setIfInBounds_toArray, List.set_cons_zero, List.set_cons_succ]
  refine rg_step 2 rfl (by kernel_rfl) (by rfl) (fun K hK => ?_)
  go_simp
  refine (numa_any _ c.fst).mono ?_
  rw [NF.out]
  rintro e u1 ⟨rfl, p1⟩
  replace r0 := r0.trans (p1.mono r0.size)
  refine hK.out _ _ (Ext.below_all _ p1) ?_
  clear hK K; try simp only [Act.put, List.setIfInBounds_toArray, List.set_cons_zero, List.set_cons_succ]
  refine rg_step 5 rfl (by kernel_rfl) (by rfl) (fun K hK => ?_)
  go_simp
  refine (numa_any _ c.lst).mono ?_
  rw [NL.out]
  rintro e u2 ⟨rfl, p1⟩
  replace r0 := r0.trans (p1.mono r0.size)
  refine hK.out _ _ (Ext.below_all _ p1) ?_
  clear hK K; try simp only [Act.put, List.setIfInBounds_toArray, List.set_cons_zero, List.set_cons_succ]
  refine rg_step 8 rfl (by kernel_rfl) (by rfl) (fun K hK => ?_)
  go_simp
  refine (numa_any _ c.own).mono ?_
  rw [NO.out]
  rintro e u3 ⟨rfl, p1⟩
  replace r0 := r0.trans (p1.mono r0.size)
  refine hK.out _ _ (Ext.below_all _ p1) ?_
  clear hK K; try simp only [Act.put, List.setIfInBounds_toArray, List.set_cons_zero, List.set_cons_succ]
  refine rg_take (v := ?_) 9 rfl (by kernel_rfl) (by kernel_rfl) (by kernel_rfl) (fun _ _ _ h => h) (by rfl) ?_ ?_; rotate_left
  · (intro x hx; go_simp; first | done | with_reducible rfl | (rw [if_pos (by omega)]; try with_reducible rfl) | (rw [if_neg (by omega)]; try with_reducible rfl))
  try simp only [Act.put, List.setIfInBounds_toArray, List.set_cons_zero, List.set_cons_succ]
  refine rg_take (v := ?_) 10 rfl (by kernel_rfl) (by kernel_rfl) (by kernel_rfl) (fun _ _ _ h => h) (by rfl) ?_ ?_; rotate_left
  · (intro x hx; go_simp; first | done | with_reducible rfl | (rw [if_pos (by omega)]; try with_reducible rfl) | (rw [if_neg (by omega)]; try with_reducible rfl))
  try simp only [Act.put, List.setIfInBounds_toArray, List.set_cons_zero, List.set_cons_succ]
  refine rg_take (v := ?_) 11 rfl (by kernel_rfl) (by kernel_rfl) (by kernel_rfl) (fun _ _ _ h => h) (by rfl) ?_ ?_; rotate_left
  · (intro x hx; go_simp; first | done | with_reducible rfl | (rw [if_pos (by omega)]; try with_reducible rfl) | (rw [if_neg (by omega)]; try with_reducible rfl))
  try simp only [Act.put, List.setIfInBounds_toArray, List.set_cons_zero, List.set_cons_succ]
  refine rg_done (by kernel_rfl) ?_
  have P3 := below_at r0 P0 (heap_lt P0)
  have b3 : Below g w u3 := by have := HG.out; subst this; exact b0.trans (r0.mono b0.size)
  have bs : g ≤ u3.heap.size := Nat.le_of_lt (heap_lt P3)
  clear P0 b0 r0 f0
  have f3 := (cells_of P3).1
  go_wp2_with (first | ((with_reducible apply at_load_row 34); (case hx => exact rfl); (case hg => exact P3); (case hu => exact Tryd.underlying34); (case hd => rfl); (case hi => kernel_rfl)) | ((with_reducible apply at_load_guard 34); (case hx => exact rfl); (case hg => exact P3); (case hw => first | rfl | kernel_rfl); (case hu => exact Tryd.underlying34); (case hd => rfl); (case hi => kernel_rfl)))
  refine (inner_any u3 c vf vo c.fst).mono ?_
  rw [E1.out]
  rintro e u4 ⟨rfl, q4⟩
  have P4 := below_at q4 P3 (heap_lt P3)
  have b4 := b3.trans (q4.mono bs)
  replace bs := Nat.le_trans bs q4.size
  clear P3 b3 q4 f3
  rcases t1 with _ | _
  · go_wp2_with fail
    go_ret
    exact ⟨by rw [HB.out]; rfl, by rw [HG.out]; exact b4⟩
  have f4 := (cells_of P4).1
  go_wp2_with (first | ((with_reducible apply at_load_row 34); (case hx => exact rfl); (case hg => exact P4); (case hu => exact Tryd.underlying34); (case hd => rfl); (case hi => kernel_rfl)) | ((with_reducible apply at_load_guard 34); (case hx => exact rfl); (case hg => exact P4); (case hw => first | rfl | kernel_rfl); (case hu => exact Tryd.underlying34); (case hd => rfl); (case hi => kernel_rfl)))
  refine (inner_any u4 c vf vo c.lst).mono ?_
  rw [E2.out]
  rintro e u5 ⟨rfl, q4⟩
  have b5 := b4.trans (q4.mono bs)
  clear P4 b4 q4 f4
  rcases t2 with _ | _
  · go_wp2_with fail
    go_ret
    exact ⟨by rw [HB.out]; rfl, by rw [HG.out]; exact b5⟩
  rcases Nat.lt_or_ge nl nf with h3 | h3
  · have d1 : decide ((nf : Int) ≤ (nl : Int)) = false := decide_eq_false (by omega)
    have d2 : decide (nf ≤ nl) = false := decide_eq_false (by omega)
    go_wp2_with fail
    go_ret
    exact ⟨by rw [HB.out, d2]; rfl, by rw [HG.out]; exact b5⟩
  have d1 : decide ((nf : Int) ≤ (nl : Int)) = true := decide_eq_true (by omega)
  have d2 : decide (nf ≤ nl) = true := decide_eq_true h3
  have hw : IntKind.u32.wrap ((nl : Int) - (nf : Int)) = (nl : Int) - (nf : Int) := by rw [show IntKind.u32.wrap ((nl : Int) - (nf : Int)) = ((nl : Int) - (nf : Int)) % 4294967296 by simp [IntKind.wrap, IntKind.bits, IntKind.signed]]; omega
  rcases Nat.lt_or_ge nl (nf + 64) with h4 | h4
  case inr =>
    have d3 : decide ((nl : Int) - (nf : Int) < 64) = false := decide_eq_false (by omega)
    have d4 : decide (nl < nf + 64) = false := decide_eq_false (by omega)
    clear h3 h4
    go_wp2_with fail
    go_ret
    exact ⟨by rw [HB.out, d2, d4]; rfl, by rw [HG.out]; exact b5⟩
  have d3 : decide ((nl : Int) - (nf : Int) < 64) = true := decide_eq_true (by omega)
  have d4 : decide (nl < nf + 64) = true := decide_eq_true h4
  clear h3 h4
  rcases Nat.lt_or_ge no nf with h5 | h5
  · have d5 : decide ((no : Int) < (nf : Int)) = true := decide_eq_true (by omega)
    have d6 : decide (no < nf) = true := decide_eq_true h5
    clear h5
    go_wp2_with fail
    go_ret
    exact ⟨by rw [HB.out, d2, d4, d6]; rfl, by rw [HG.out]; exact b5⟩
  have d5 : decide ((no : Int) < (nf : Int)) = false := decide_eq_false (by omega)
  have d6 : decide (no < nf) = false := decide_eq_false (by omega)
  clear h5
  rcases Nat.lt_or_ge nl no with h5 | h5
  · have d7 : decide ((nl : Int) < (no : Int)) = true := decide_eq_true (by omega)
    have d8 : decide (nl < no) = true := decide_eq_true h5
    clear h5
    go_wp2_with fail
    go_ret
    exact ⟨by rw [HB.out, d2, d4, d6, d8]; rfl, by rw [HG.out]; exact b5⟩
  · have d7 : decide ((nl : Int) < (no : Int)) = false := decide_eq_false (by omega)
    have d8 : decide (nl < no) = false := decide_eq_false (by omega)
    clear h5
    go_wp2_with fail
    go_ret
    exact ⟨by rw [HB.out, d2, d4, d6, d8]; rfl, by rw [HG.out]; exact b5⟩
theorem flow_any (w : World) (v : Int) : Calls Tryd.prog 44 #[.int .i64 v] w (fun e w' => e = .returned (.bool (inR v 10 86400)) ∧ w' = w) := by
  go_enter Tryd.func44, Tryd.ntmps44
  go_wp2_with fail
  refine (within_any w v 10 86400).mono ?_
  rintro e w1 ⟨rfl, rfl⟩
  go_wp2_with fail
  go_ret
  exact ⟨rfl, rfl⟩
end Go.Proofs.YtnmdiageigbphaaDoor
