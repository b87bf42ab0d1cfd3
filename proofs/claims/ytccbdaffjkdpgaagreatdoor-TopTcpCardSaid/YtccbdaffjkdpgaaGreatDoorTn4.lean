/-
  The gateway made of the usual configuration; its outer address, its ticks.
-/
import Derived.Test.YtccbdaffjkdpgaaGreatDoorTn3
namespace Go.Proofs.YtccbdaffjkdpgaaGreatDoor
open Go.RowKit

/-- A gateway at tick 0 whose client has nothing. -/
def GL (w : World) (g : Nat) : Prop := ∃ c n0 n1 s bl t n a p, GT w g c n0 n1 s (ptr bl) t n a p ∧ w.heap[bl]? = some (.cells (clZ c.wm) 277 (0, 0))
theorem GL.next {w w' : World} {g : Nat} (h : GL w g) (q : Below w.heap.size w w') : GL w' g := by
  obtain ⟨c, n0, n1, s, bl, t, n, a, p, P, L⟩ := h
  exact ⟨c, n0, n1, s, bl, t, n, a, p, below_at q P (heap_lt P), below_at q L (heap_lt L)⟩
theorem GL.lt {w : World} {g : Nat} (h : GL w g) : g < w.heap.size := by
  obtain ⟨_, _, _, _, _, _, _, _, _, P, _⟩ := h
  exact heap_lt P
set_option maxRecDepth 100000 in
set_option maxHeartbeats 8000000 in
theorem gateNew_any (w : World) (c : Cf) (U : UsI c) : Calls Tryz.prog 29 #[.agg (cfC c nilS nilS)] w (fun e w' => (∃ g, e = .returned (.tuple #[ptr g, .int .i64 0]) ∧ GL w' g) ∧ Below w.heap.size w w') := by
  have P0 := heap_alloc_new w (.cells (cfC c nilS nilS) 76)
  have b0 : Below w.heap.size w (w.alloc (.cells (cfC c nilS nilS) 76)) := (Below.refl _ w).alloc (Nat.le_refl _) _
  have HU := Lib.hid U
  clear U
  go_enter Tryz.func29, Tryz.ntmps29
  go_upto_region 1 with fail
  generalize w.alloc (.cells (cfC c nilS nilS) 76) = w0 at P0 b0 ⊢
  obtain ⟨g0, hg⟩ : ∃ g, w.heap.size = g := ⟨_, rfl⟩
  rw [hg] at P0 ⊢
  have HB := Lib.hid b0
  clear hg b0
  go_wp2_with ((with_reducible apply at_load_row 76); (case hx => exact rfl); (case hg => exact P0); (case hu => exact Tryz.underlying76); (case hd => rfl); (case hi => kernel_rfl))
  refine (check_any w0 c).mono ?_
  rw [HU.out.chk]
  rintro e w1 ⟨rfl, q1⟩
  have P1 := below_at q1 P0 (heap_lt P0)
  have HB1 := Lib.hid (HB.out.trans (q1.mono HB.out.size))
  clear P0 HB q1
  go_wp2_with ((with_reducible apply at_load_row 76); (case hx => exact rfl); (case hg => exact P1); (case hu => exact Tryz.underlying76); (case hd => rfl); (case hi => kernel_rfl))
  refine (copy_nil w1 c).mono ?_
  rintro e w2 ⟨rfl, q2⟩
  have HB2 := Lib.hid (HB1.out.trans (q2.mono HB1.out.size))
  clear P1 HB1 q2
  go_upto_region 5 with fail
  have P3 : GT (w2.alloc (.cells (gtC c nilP nilP nilP nilP nilP nilP nilP nilP) 107)) w2.heap.size c nilP nilP nilP nilP nilP nilP nilP nilP := heap_alloc_new w2 _
  have q3 : Below w2.heap.size w2 (w2.alloc (.cells (gtC c nilP nilP nilP nilP nilP nilP nilP nilP) 107)) := (Below.refl _ w2).alloc (Nat.le_refl _) _
  obtain ⟨g, hg⟩ : ∃ g, w2.heap.size = g := ⟨_, rfl⟩
  rw [hg] at P3 ⊢
  have HG := Lib.hid hg
  generalize w2.alloc (.cells (gtC c nilP nilP nilP nilP nilP nilP nilP nilP) 107) = w3 at P3 q3 ⊢
  have HB3 := Lib.hid (HB2.out.trans (q3.mono HB2.out.size))
  have hwg := HB2.out.size
  clear HB2 q3 hg
  go_wp2_with fail
  refine (boot_any w3 g c HU.out P3).mono ?_
  rintro e w4 ⟨rfl, n0, n1, s, bl, t, n, a, p, P4, hne, L4, X4⟩
  have b4 : Below w.heap.size w w4 := HB3.out.trans (X4.below (H := w.heap.size) HB3.out.size (fun k hk e => by have := HG.out; omega))
  clear HB3 X4 P3
  go_wp2_with fail
  go_ret2
  exact ⟨⟨g, rfl, c, n0, n1, s, bl, t, n, a, p, P4, L4⟩, b4⟩
abbrev bdZ : Array Value := #[.int .u8 0, .int .u8 0, .int .u8 0, .int .u8 0, .int .u8 0, .int .u8 0, .int .u8 0, .int .u8 0, .int .u8 0, .int .u8 0, .int .u8 0, .int .u8 0, .int .u8 0, .int .u8 0, .int .u8 0, .int .u8 0, .int .i64 0]
set_option maxRecDepth 100000 in
set_option maxHeartbeats 4000000 in
theorem bound_none (w : World) (g : Nat) (m : Mac6) (h : w.heap[g]? = some (.cells (clZ m) 277 (0, 0))) :
    Calls Tryz.prog 96 #[.pointer (some ⟨g, 0, none⟩)] w (fun e w' => e = .returned (.tuple #[.agg bdZ, .bool false]) ∧ Below w.heap.size w w') := by
  have gl := heap_lt h
  have b0 : Below w.heap.size w (w.alloc (.cells bdZ 237)) := (Below.refl _ w).alloc (Nat.le_refl _) _
  have C0 := below_at b0 h gl
  have X0 := heap_alloc_new w (.cells bdZ 237)
  clear h
  go_enter Tryz.func96, Tryz.ntmps96
  go_upto_region 1 with fail
  change Code.wp _ _ _ _ (w.alloc (.cells bdZ 237))
  generalize w.alloc (.cells bdZ 237) = w1 at b0 C0 X0 ⊢
  obtain ⟨x, hx⟩ : ∃ x, w.heap.size = x := ⟨_, rfl⟩
  have X1 := X0
  rw [hx] at X1 ⊢
  have hgx : g < x := by omega
  have HX := Lib.hid hx
  clear X0 hx
  have f1 := Ext.cells (w := w1.drew) (M := fun y => y = x) C0 (by omega)
  refine rg_begin (fun y => y = x) (by kernel_rfl) ?_
  refine rg_take (v := ?_) 0 rfl (by kernel_rfl) (by kernel_rfl) (by kernel_rfl) (fun _ _ _ h => h) (by rfl) ?_ ?_; rotate_left
  · (intro x hx; go_simp; first | done | with_reducible rfl | (rw [if_pos (by omega)]; try with_reducible rfl) | (rw [if_neg (by omega)]; try with_reducible rfl))
  try simp only [Act.put, List.setIfInBounds_toArray, List.set_cons_zero, List.set_cons_succ]
  refine rg_take (v := ?_) 1 rfl (by kernel_rfl) (by kernel_rfl) (by kernel_rfl) (fun _ _ _ h => h) (by rfl) ?_ ?_; rotate_left
  · (intro x hx; go_simp; first | done | with_reducible rfl | (rw [if_pos (by omega)]; try with_reducible rfl) | (rw [if_neg (by omega)]; try with_reducible rfl))
  try simp only [Act.put, List.setIfInBounds_toArray, List.set_cons_zero, List.set_cons_succ]
  refine rg_take (v := ?_) 2 rfl (by kernel_rfl) (by kernel_rfl) (by kernel_rfl) (fun _ _ _ h => h) (by rfl) ?_ ?_; rotate_left
  · (intro x hx; go_simp; first | done | with_reducible rfl | (rw [if_pos (by omega)]; try with_reducible rfl) | (rw [if_neg (by omega)]; try with_reducible rfl))
  try simp only [Act.put, List.setIfInBounds_toArray, List.set_cons_zero, List.set_cons_succ]
  refine rg_take (v := ?_) 3 rfl (by kernel_rfl) (by kernel_rfl) (by kernel_rfl) (fun _ _ _ h => h) (by rfl) ?_ ?_; rotate_left
  · (intro x hx; go_simp; first | done | with_reducible rfl | (rw [if_pos (by omega)]; try with_reducible rfl) | (rw [if_neg (by omega)]; try with_reducible rfl))
  try simp only [Act.put, List.setIfInBounds_toArray, List.set_cons_zero, List.set_cons_succ]
  refine rg_take (v := ?_) 4 rfl (by kernel_rfl) (by kernel_rfl) (by kernel_rfl) (fun _ _ _ h => h) (by rfl) ?_ ?_; rotate_left
  · (intro x hx; go_simp; first | done | with_reducible rfl | (rw [if_pos (by omega)]; try with_reducible rfl) | (rw [if_neg (by omega)]; try with_reducible rfl))
  try simp only [Act.put, List.setIfInBounds_toArray, List.set_cons_zero, List.set_cons_succ]
  refine rg_take (v := ?_) 5 rfl (by kernel_rfl) (by kernel_rfl) (by kernel_rfl) (fun _ _ _ h => h) (by rfl) ?_ ?_; rotate_left
  · (intro x hx; go_simp; first | done | with_reducible rfl | (rw [if_pos (by omega)]; try with_reducible rfl) | (rw [if_neg (by omega)]; try with_reducible rfl))
  try simp only [Act.put, List.setIfInBounds_toArray, List.set_cons_zero, List.set_cons_succ]
  refine rg_take (v := ?_) 6 rfl (by kernel_rfl) (by kernel_rfl) (by kernel_rfl) (fun _ _ _ h => h) (by rfl) ?_ ?_; rotate_left
  · (intro x hx; go_simp; first | done | with_reducible rfl | (rw [if_pos (by omega)]; try with_reducible rfl) | (rw [if_neg (by omega)]; try with_reducible rfl))
  try simp only [Act.put, List.setIfInBounds_toArray, List.set_cons_zero, List.set_cons_succ]
  refine rg_take (v := ?_) 7 rfl (by kernel_rfl) (by kernel_rfl) (by kernel_rfl) (fun _ _ _ h => h) (by rfl) ?_ ?_; rotate_left
  · (intro x hx; go_simp; first | done | with_reducible rfl | (rw [if_pos (by omega)]; try with_reducible rfl) | (rw [if_neg (by omega)]; try with_reducible rfl))
  try simp only [Act.put, List.setIfInBounds_toArray, List.set_cons_zero, List.set_cons_succ]
  refine rg_take (v := ?_) 8 rfl (by kernel_rfl) (by kernel_rfl) (by kernel_rfl) (fun _ _ _ h => h) (by rfl) ?_ ?_; rotate_left
  · (intro x hx; go_simp; first | done | with_reducible rfl | (rw [if_pos (by omega)]; try with_reducible rfl) | (rw [if_neg (by omega)]; try with_reducible rfl))
  try simp only [Act.put, List.setIfInBounds_toArray, List.set_cons_zero, List.set_cons_succ]
  refine rg_step 9 rfl (by kernel_rfl) (by rfl) (fun K hK => ?_)
  --RAW
  apply wp_store_part 237
  case ho => exact rfl
  case hx => exact rfl
  case hy => exact rfl
  case hg => exact X1
  case hle => simp
  case hi => kernel_rfl
  case h1 => kernel_rfl
  intro w2 g2 X2
  refine hK.out _ _ (Ext.of_grown g2 fun y hy => by injection hy with e; exact e.symm) ?_
  clear hK K
  refine rg_take (v := ?_) 10 rfl (by kernel_rfl) (by kernel_rfl) (by kernel_rfl) (fun _ _ _ h => h) (by rfl) ?_ ?_; rotate_left
  · (intro x hx; go_simp; first | done | with_reducible rfl | (rw [if_pos (by omega)]; try with_reducible rfl) | (rw [if_neg (by omega)]; try with_reducible rfl))
  try simp only [Act.put, List.setIfInBounds_toArray, List.set_cons_zero, List.set_cons_succ]
  refine rg_done (by kernel_rfl) ?_
  have X2' : w2.heap[x]? = some (.cells bdZ 237 (0, 0)) := X2
  go_wp2_with fail
  refine bodyPost_cell_tmp x _ _ _ rfl rfl X2' Tryz.underlying237 rfl (by kernel_rfl) rfl ?_
  exact ⟨rfl, below_grown b0.drew g2 (by have := b0.size; exact this) (by rw [HX.out]; omega)⟩
end Go.Proofs.YtccbdaffjkdpgaaGreatDoor
