/-
  conf: Usual of the reference; awake.
-/
import Derived.Test.YtnmdiageigbphaaDoorKp20
namespace Go.Proofs.YtnmdiageigbphaaDoor
open Go.RowKit

def us0 : Cf := ⟨⟨192, 168, 1, 1⟩, ⟨192, 168, 1, 0⟩, 24, ⟨2, 0, 0, 0, 0, 1⟩, ⟨2, 0, 0, 0, 0, 2⟩, ⟨192, 168, 1, 100⟩, ⟨192, 168, 1, 131⟩, 3600, ⟨9, 9, 9, 9⟩, 120, 7200, 30, 40000⟩
theorem usC_eq : usC = us0 := by kernel_rfl
set_option maxRecDepth 100000 in
set_option maxHeartbeats 4000000 in
theorem usual10_any (w : World) : Calls Tryd.prog 18 #[] w (fun e w' => e = .returned (.agg (cfC us0 nilS nilS)) ∧ Below w.heap.size w w') := by
  have R0 := heap_alloc_new w (.cells (cfC us0 nilS nilS) 43)
  have b0 : Below w.heap.size w (w.alloc (.cells (cfC us0 nilS nilS) 43)) := (Below.refl _ w).alloc (Nat.le_refl _) _
  go_enter Tryd.func18, Tryd.ntmps18
  go_wp2_with ((with_reducible apply at_store_new 43); (case hx => exact rfl); (case hy => exact rfl); (case hg => first | rfl | simp); (case hi => kernel_rfl); (case hold => rfl); (case h1 => kernel_rfl))
  exact bodyPost_cell w.heap.size _ _ _ rfl rfl R0 Tryd.underlying43 rfl (by kernel_rfl) rfl ⟨rfl, b0⟩
abbrev tAw : List UInt8 := [116, 105, 109, 101, 32, 61, 32, 54, 48]
def c60 : Cf := { us0 with time := 60 }
theorem aw_lines : linesV tAw = [tAw] := by kernel_rfl
theorem aw_go : goL usC [] 0 (linesV tAw) = (0, 1, c60, [nTime]) := by kernel_rfl
theorem aw_chk : chkE c60 = 0 := by kernel_rfl
theorem aw_name : nameOf tAw = nTime := by kernel_rfl
theorem aw_parse (w : World) (hm : mlIs w) : Calls Tryd.prog 9 #[.string (str tAw)] w (ConfP w (c60, 0, 0)) := by
  have h := confParse_any w hm tAw (by decide) (by rw [aw_lines]; decide) (by
    rw [aw_lines]
    intro x hx
    obtain rfl : x = tAw := by simpa using hx
    refine ⟨by unfold asc; decide, by decide, ?_, ?_⟩
    · rw [aw_name]; decide
    · rw [aw_name]; decide) _ aw_go c60 (fun _ => ends_no _ _ (by decide))
  rwa [show resR (0, 1, c60, [nTime]) c60 = (c60, 0, 0) by rw [resR, aw_chk]; rfl] at h
set_option maxRecDepth 100000 in
set_option maxHeartbeats 8000000 in
theorem awake10_any (w : World) (hm : mlIs w) : Calls Tryd.prog 8 #[] w (fun e w' => e = .returned (.bool true) ∧ Below w.heap.size w w') := by
  have hmp := hm.pos
  have hck := fun w => check_any w c60
  rw [aw_chk] at hck
  have HCK := Lib.hid hck
  clear hck
  go_enter Tryd.func8, Tryd.ntmps8
  go_wp2_with fail
  refine (aw_parse w hm).mono ?_
  rintro e w1 ⟨rfl, q1⟩
  simp only
  go_upto_region 2 with ((with_reducible apply at_store_new 34); (case hx => exact rfl); (case hy => exact rfl); (case hg => first | rfl | simp); (case hi => kernel_rfl); (case hold => rfl); (case h1 => kernel_rfl))
  have C2 := heap_alloc_new w1 (.cells (cfC c60 nilS nilS) 34)
  have b2 : Below w.heap.size w (w1.alloc (.cells (cfC c60 nilS nilS) 34)) := q1.alloc q1.size _
  obtain ⟨gc, hgc⟩ : ∃ g, w1.heap.size = g := ⟨_, rfl⟩
  rw [hgc] at C2 ⊢
  generalize w1.alloc (.cells (cfC c60 nilS nilS) 34) = w2 at C2 b2 ⊢
  have hs2 := b2.size
  clear hgc q1 hm
  go_wp2_with fail
  refine (usual10_any w2).mono ?_
  rintro e w3 ⟨rfl, q3⟩
  have C3 := below_at q3 C2 (heap_lt C2)
  have b3 := b2.trans (q3.mono hs2)
  clear C2 b2 hs2 q3
  go_upto_region 3 with ((with_reducible apply at_store_new 43); (case hx => exact rfl); (case hy => exact rfl); (case hg => first | rfl | simp); (case hi => kernel_rfl); (case hold => rfl); (case h1 => kernel_rfl))
  have U4 := heap_alloc_new w3 (.cells (cfC us0 nilS nilS) 43)
  have q4 : Below w3.heap.size w3 (w3.alloc (.cells (cfC us0 nilS nilS) 43)) := (Below.refl _ w3).alloc (Nat.le_refl _) _
  have C4 := below_at q4 C3 (heap_lt C3)
  have b4 := b3.trans (q4.mono b3.size)
  obtain ⟨gu, hgu⟩ : ∃ g, w3.heap.size = g := ⟨_, rfl⟩
  have hne : gc ≠ gu := by have := heap_lt C3; omega
  have hwu : w.heap.size ≤ gu := by have := b3.size; omega
  rw [hgu] at U4 ⊢
  generalize w3.alloc (.cells (cfC us0 nilS nilS) 43) = w4 at C4 U4 b4 ⊢
  clear q4 C3 b3 hgu
  go_upto_region 4 with ((with_reducible apply at_store_one 3); (case hx => exact rfl); (case hy => exact rfl); (case hg => exact U4); (case hle => simp); (case hv => rfl); (case hi => kernel_rfl); (case h1 => rfl); (intro w5 g5 P5; replace P5 := Lib.hid P5))
  have U5 : w5.heap[gu]? = some (.cells (cfC c60 nilS nilS) 43 (0, 0)) := P5.out
  have C5 := grown_at g5 C4 hne
  have b5 := below_grown b4 g5 b4.size hwu
  clear C4 U4 b4 g5 P5 hne hwu
  have r0 : Below w5.heap.size w5 w5.drew := (Below.refl _ _).drew
  have KC := Ext.at_ (M := fun _ => False) (w := w5.drew) C5 (fun h => h)
  have KU := Ext.at_ (M := fun _ => False) (w := w5.drew) U5 (fun h => h)
  refine rg_begin (fun _ => False) (by kernel_rfl) ?_
  refine rg_take (v := ?_) 0 rfl (by kernel_rfl) (by kernel_rfl) (by kernel_rfl) (fun _ _ _ h => h) (by rfl) ?_ ?_; rotate_left
  · (intro x hx; go_simp; first | done | with_reducible rfl | (rw [if_pos (by omega)]; try with_reducible rfl) | (rw [if_neg (by omega)]; try with_reducible rfl))
  try simp only [Act.put, List.setIfInBounds_toArray, List.set_cons_zero, List.set_cons_succ]
  refine rg_take (v := ?_) 1 rfl (by kernel_rfl) (by kernel_rfl) (by kernel_rfl) (fun _ _ _ h => h) (by rfl) ?_ ?_; rotate_left
  · (intro x hx; go_simp; first | done | with_reducible rfl | (rw [if_pos (by omega)]; try with_reducible rfl) | (rw [if_neg (by omega)]; try with_reducible rfl))
  try simp only [Act.put, List.setIfInBounds_toArray, List.set_cons_zero, List.set_cons_succ]
  refine rg_take (v := ?_) 2 rfl (by kernel_rfl) (by kernel_rfl) (by kernel_rfl) (fun _ _ _ h => h) (by rfl) ?_ ?_; rotate_left
  · (intro x hx; go_simp; first | done | with_reducible rfl | (rw [if_pos (by omega)]; try with_reducible rfl) | (rw [if_neg (by omega)]; try with_reducible rfl))
  try simp only [Act.put, List.setIfInBounds_toArray, List.set_cons_zero, List.set_cons_succ]
  refine rg_take (v := ?_) 3 rfl (by kernel_rfl) (by kernel_rfl) (by kernel_rfl) (fun _ _ _ h => h) (by rfl) ?_ ?_; rotate_left
  · (intro x hx; go_simp; first | done | with_reducible rfl | (rw [if_pos (by omega)]; try with_reducible rfl) | (rw [if_neg (by omega)]; try with_reducible rfl))
  try simp only [Act.put, List.setIfInBounds_toArray, List.set_cons_zero, List.set_cons_succ]
  refine rg_take (v := ?_) 4 rfl (by kernel_rfl) (by kernel_rfl) (by kernel_rfl) (fun _ _ _ h => h) (by rfl) ?_ ?_; rotate_left
  · (intro x hx; go_simp; first | done | with_reducible rfl | (rw [if_pos (by omega)]; try with_reducible rfl) | (rw [if_neg (by omega)]; try with_reducible rfl))
  try simp only [Act.put, List.setIfInBounds_toArray, List.set_cons_zero, List.set_cons_succ]
  refine rg_take (v := ?_) 5 rfl (by kernel_rfl) (by kernel_rfl) (by kernel_rfl) (fun _ _ _ h => h) (by rfl) ?_ ?_; rotate_left
  · (intro x hx; go_simp; first | done | with_reducible rfl | (rw [if_pos (by omega)]; try with_reducible rfl) | (rw [if_neg (by omega)]; try with_reducible rfl))
  try simp only [Act.put, List.setIfInBounds_toArray, List.set_cons_zero, List.set_cons_succ]
  refine rg_take (v := ?_) 6 rfl (by kernel_rfl) (by kernel_rfl) (by kernel_rfl) (fun _ _ _ h => h) (by rfl) ?_ ?_; rotate_left
  · (intro x hx; go_simp; first | done | with_reducible rfl | (rw [if_pos (by omega)]; try with_reducible rfl) | (rw [if_neg (by omega)]; try with_reducible rfl))
  try simp only [Act.put, List.setIfInBounds_toArray, List.set_cons_zero, List.set_cons_succ]
  refine rg_take (v := .agg (cfC c60 nilS nilS)) 7 rfl (by kernel_rfl) (by kernel_rfl) (by kernel_rfl) (fun _ _ _ h => h) (by rfl) ?_ ?_
  · (intro x hx; apply run_load_big; (case ho => exact rfl); (case hv => exact rfl); (case hg => exact KC x hx); (case hu => exact Tryd.underlying34); (case hd => rfl); (case hi => kernel_rfl))
  try simp only [Act.put, List.setIfInBounds_toArray, List.set_cons_zero, List.set_cons_succ]
  refine rg_take (v := .agg (cfC c60 nilS nilS)) 9 rfl (by kernel_rfl) (by kernel_rfl) (by kernel_rfl) (fun _ _ _ h => h) (by rfl) ?_ ?_
  · (intro x hx; apply run_load_big; (case ho => exact rfl); (case hv => exact rfl); (case hg => exact KU x hx); (case hu => exact Tryd.underlying43); (case hd => rfl); (case hi => kernel_rfl))
  try simp only [Act.put, List.setIfInBounds_toArray, List.set_cons_zero, List.set_cons_succ]
  refine rg_step 8 rfl (by kernel_rfl) (by rfl) (fun K hK => ?_)
  go_simp
  refine (own_any _ c60).mono ?_
  rintro e u1 ⟨rfl, p1⟩
  replace r0 := r0.trans (p1.mono r0.size)
  have KC := Ext.at_ (M := fun _ => False) (w := u1) (below_at r0 C5 (heap_lt C5)) (fun h => h)
  have KU := Ext.at_ (M := fun _ => False) (w := u1) (below_at r0 U5 (heap_lt U5)) (fun h => h)
  refine hK.out _ _ (Ext.below_all _ p1) ?_
  clear hK K; try simp only [Act.put, List.setIfInBounds_toArray, List.set_cons_zero, List.set_cons_succ]
  refine rg_step 10 rfl (by kernel_rfl) (by rfl) (fun K hK => ?_)
  go_simp
  refine (same_self _ c60).mono ?_
  rintro e u1 ⟨rfl, p1⟩
  replace r0 := r0.trans (p1.mono r0.size)
  have KC := Ext.at_ (M := fun _ => False) (w := u1) (below_at r0 C5 (heap_lt C5)) (fun h => h)
  refine hK.out _ _ (Ext.below_all _ p1) ?_
  clear hK K; try simp only [Act.put, List.setIfInBounds_toArray, List.set_cons_zero, List.set_cons_succ]
  refine rg_take (v := ?_) 11 rfl (by kernel_rfl) (by kernel_rfl) (by kernel_rfl) (fun _ _ _ h => h) (by rfl) ?_ ?_; rotate_left
  · (intro x hx; go_simp; first | done | with_reducible rfl | (rw [if_pos (by omega)]; try with_reducible rfl) | (rw [if_neg (by omega)]; try with_reducible rfl))
  try simp only [Act.put, List.setIfInBounds_toArray, List.set_cons_zero, List.set_cons_succ]
  refine rg_take (v := ?_) 12 rfl (by kernel_rfl) (by kernel_rfl) (by kernel_rfl) (fun _ _ _ h => h) (by rfl) ?_ ?_; rotate_left
  · (intro x hx; go_simp; first | done | with_reducible rfl | (rw [if_pos (by omega)]; try with_reducible rfl) | (rw [if_neg (by omega)]; try with_reducible rfl))
  try simp only [Act.put, List.setIfInBounds_toArray, List.set_cons_zero, List.set_cons_succ]
  refine rg_step 13 rfl (by kernel_rfl) (by rfl) (fun K hK => ?_)
  go_simp
  refine (usual_any _).mono ?_
  rw [usC_eq]
  rintro e u1 ⟨rfl, p1⟩
  replace r0 := r0.trans (p1.mono r0.size)
  have KC := Ext.at_ (M := fun _ => False) (w := u1) (below_at r0 C5 (heap_lt C5)) (fun h => h)
  refine hK.out _ _ (Ext.below_all _ p1) ?_
  clear hK K; try simp only [Act.put, List.setIfInBounds_toArray, List.set_cons_zero, List.set_cons_succ]
  refine rg_step 14 rfl (by kernel_rfl) (by rfl) (fun K hK => ?_)
  go_simp
  refine (own_any _ us0).mono ?_
  rintro e u1 ⟨rfl, p1⟩
  replace r0 := r0.trans (p1.mono r0.size)
  have KC := Ext.at_ (M := fun _ => False) (w := u1) (below_at r0 C5 (heap_lt C5)) (fun h => h)
  refine hK.out _ _ (Ext.below_all _ p1) ?_
  clear hK K; try simp only [Act.put, List.setIfInBounds_toArray, List.set_cons_zero, List.set_cons_succ]
  refine rg_step 15 rfl (by kernel_rfl) (by rfl) (fun K hK => ?_)
  go_simp
  refine (usual10_any _).mono ?_
  rintro e u1 ⟨rfl, p1⟩
  replace r0 := r0.trans (p1.mono r0.size)
  have KC := Ext.at_ (M := fun _ => False) (w := u1) (below_at r0 C5 (heap_lt C5)) (fun h => h)
  refine hK.out _ _ (Ext.below_all _ p1) ?_
  clear hK K; try simp only [Act.put, List.setIfInBounds_toArray, List.set_cons_zero, List.set_cons_succ]
  refine rg_step 16 rfl (by kernel_rfl) (by rfl) (fun K hK => ?_)
  go_simp
  refine (same_self _ us0).mono ?_
  rintro e u1 ⟨rfl, p1⟩
  replace r0 := r0.trans (p1.mono r0.size)
  have KC := Ext.at_ (M := fun _ => False) (w := u1) (below_at r0 C5 (heap_lt C5)) (fun h => h)
  refine hK.out _ _ (Ext.below_all _ p1) ?_
  clear hK K; try simp only [Act.put, List.setIfInBounds_toArray, List.set_cons_zero, List.set_cons_succ]
  refine rg_take (v := ?_) 17 rfl (by kernel_rfl) (by kernel_rfl) (by kernel_rfl) (fun _ _ _ h => h) (by rfl) ?_ ?_; rotate_left
  · (intro x hx; go_simp; first | done | with_reducible rfl | (rw [if_pos (by omega)]; try with_reducible rfl) | (rw [if_neg (by omega)]; try with_reducible rfl))
  try simp only [Act.put, List.setIfInBounds_toArray, List.set_cons_zero, List.set_cons_succ]
  refine rg_take (v := ?_) 18 rfl (by kernel_rfl) (by kernel_rfl) (by kernel_rfl) (fun _ _ _ h => h) (by rfl) ?_ ?_; rotate_left
  · (intro x hx; go_simp; first | done | with_reducible rfl | (rw [if_pos (by omega)]; try with_reducible rfl) | (rw [if_neg (by omega)]; try with_reducible rfl))
  try simp only [Act.put, List.setIfInBounds_toArray, List.set_cons_zero, List.set_cons_succ]
  refine rg_take (v := .agg (cfC c60 nilS nilS)) 19 rfl (by kernel_rfl) (by kernel_rfl) (by kernel_rfl) (fun _ _ _ h => h) (by rfl) ?_ ?_
  · (intro x hx; apply run_load_big; (case ho => exact rfl); (case hv => exact rfl); (case hg => exact KC x hx); (case hu => exact Tryd.underlying34); (case hd => rfl); (case hi => kernel_rfl))
  try simp only [Act.put, List.setIfInBounds_toArray, List.set_cons_zero, List.set_cons_succ]
  refine rg_step 20 rfl (by kernel_rfl) (by rfl) (fun K hK => ?_)
  go_simp
  refine (HCK.out _).mono ?_
  rintro e u1 ⟨rfl, p1⟩
  replace r0 := r0.trans (p1.mono r0.size)
  refine hK.out _ _ (Ext.below_all _ p1) ?_
  clear hK K; try simp only [Act.put, List.setIfInBounds_toArray, List.set_cons_zero, List.set_cons_succ]
  refine rg_take (v := ?_) 21 rfl (by kernel_rfl) (by kernel_rfl) (by kernel_rfl) (fun _ _ _ h => h) (by rfl) ?_ ?_; rotate_left
  · (intro x hx; go_simp; first | done | with_reducible rfl | (rw [if_pos (by omega)]; try with_reducible rfl) | (rw [if_neg (by omega)]; try with_reducible rfl))
  try simp only [Act.put, List.setIfInBounds_toArray, List.set_cons_zero, List.set_cons_succ]
  refine rg_take (v := ?_) 22 rfl (by kernel_rfl) (by kernel_rfl) (by kernel_rfl) (fun _ _ _ h => h) (by rfl) ?_ ?_; rotate_left
  · (intro x hx; go_simp; first | done | with_reducible rfl | (rw [if_pos (by omega)]; try with_reducible rfl) | (rw [if_neg (by omega)]; try with_reducible rfl))
  try simp only [Act.put, List.setIfInBounds_toArray, List.set_cons_zero, List.set_cons_succ]
  refine rg_take (v := ?_) 23 rfl (by kernel_rfl) (by kernel_rfl) (by kernel_rfl) (fun _ _ _ h => h) (by rfl) ?_ ?_; rotate_left
  · (intro x hx; go_simp; first | done | with_reducible rfl | (rw [if_pos (by omega)]; try with_reducible rfl) | (rw [if_neg (by omega)]; try with_reducible rfl))
  try simp only [Act.put, List.setIfInBounds_toArray, List.set_cons_zero, List.set_cons_succ]
  refine rg_done (by kernel_rfl) ?_
  go_wp2_with fail
  go_ret
  exact ⟨rfl, b5.trans (r0.mono b5.size)⟩
end Go.Proofs.YtnmdiageigbphaaDoor
