/-
  The gateway begun: conf.Copy, serve.New, Boot, gate.New, Wan, Now.
-/
import Derived.Test.YtccbdaffjkdpgaaGreatDoorTn1
namespace Go.Proofs.YtccbdaffjkdpgaaGreatDoor
open Go.RowKit

set_option maxRecDepth 100000 in
set_option maxHeartbeats 4000000 in
theorem copy_nil (w : World) (c : Cf) : Calls Tryz.prog 100 #[.agg (cfC c nilS nilS)] w (fun e w' => e = .returned (.agg (cfC c nilS nilS)) ∧ Below w.heap.size w w') := by
  have P0 : ((w.alloc (.cells (cfC c nilS nilS) 76)).alloc (.cells cfZ 76)).heap[w.heap.size]? = some (.cells (cfC c nilS nilS) 76 (0, 0)) := heap_alloc_of (heap_alloc_new w _)
  have R0 : ((w.alloc (.cells (cfC c nilS nilS) 76)).alloc (.cells cfZ 76)).heap[w.heap.size + 1]? = some (.cells cfZ 76 (0, 0)) := heap_alloc_at (by simp)
  have b0 : Below w.heap.size w ((w.alloc (.cells (cfC c nilS nilS) 76)).alloc (.cells cfZ 76)) := ((Below.refl _ w).alloc (Nat.le_refl _) _).alloc (by simp) _
  go_enter Tryz.func100, Tryz.ntmps100
  go_upto_region 1 with fail
  change Code.wp _ _ _ _ ((w.alloc (.cells (cfC c nilS nilS) 76)).alloc (.cells cfZ 76))
  generalize (w.alloc (.cells (cfC c nilS nilS) 76)).alloc (.cells cfZ 76) = w0 at P0 R0 b0 ⊢
  obtain ⟨g, hg⟩ : ∃ g, w.heap.size = g := ⟨_, rfl⟩
  rw [hg] at P0 R0 b0 ⊢
  have HG := Lib.hid hg
  have HB := Lib.hid b0
  have hgl := heap_lt P0
  clear hg b0
  obtain ⟨wn, hwn⟩ : ∃ y, y = w0.drew := ⟨_, rfl⟩
  have P : wn.heap[g]? = some (.cells (cfC c nilS nilS) 76 (0, 0)) := by rw [hwn]; exact P0
  have e6 : Ext (fun j => j = g) w0 wn := by rw [hwn]; exact (Ext.refl _ _).drew
  refine rg_begin (fun j => j = g) (by kernel_rfl) ?_
  rw [← hwn]
  clear hwn P0
  have kA := (cells_of P).1 38
  have kB := (cells_of P).1 39
  refine rg_take (v := ?_) 0 rfl (by kernel_rfl) (by kernel_rfl) (by kernel_rfl) (fun _ _ _ h => h) (by rfl) ?_ ?_; rotate_left
  · (intro x hx; go_simp; first | done | with_reducible rfl | (rw [if_pos (by omega)]; try with_reducible rfl) | (rw [if_neg (by omega)]; try with_reducible rfl))
  try simp only [Act.put, List.setIfInBounds_toArray, List.set_cons_zero, List.set_cons_succ]
  refine rg_take (v := ?_) 3 rfl (by kernel_rfl) (by kernel_rfl) (by kernel_rfl) (fun _ _ _ h => h) (by rfl) ?_ ?_; rotate_left
  · (intro x hx; go_simp; first | done | with_reducible rfl | (rw [if_pos (by omega)]; try with_reducible rfl) | (rw [if_neg (by omega)]; try with_reducible rfl))
  try simp only [Act.put, List.setIfInBounds_toArray, List.set_cons_zero, List.set_cons_succ]
  refine rg_two 1 4 rfl rfl (by kernel_rfl) (by rfl) (by rfl) (fun K hK => ?_) (fun K hK => ?_)
  · go_simp
    refine hK.out _ _ (Ext.refl _ _) ?_
    clear hK K; try simp only [Act.put, List.setIfInBounds_toArray, List.set_cons_zero, List.set_cons_succ]
    refine rg_two 2 4 rfl rfl (by kernel_rfl) (by rfl) (by rfl) (fun K hK => ?_) (fun K hK => ?_)
    · go_simp
      refine (cloneFx_nil _).mono ?_
      rintro e u1 ⟨rfl, rfl⟩
      refine hK.out _ _ (Ext.refl _ _) ?_
      clear hK K; try simp only [Act.put, List.setIfInBounds_toArray, List.set_cons_zero, List.set_cons_succ]
      refine rg_step 4 rfl (by kernel_rfl) (by rfl) (fun K hK => ?_)
      go_simp
      refine hK.out _ _ (Ext.refl _ _) ?_
      clear hK K; try simp only [Act.put, List.setIfInBounds_toArray, List.set_cons_zero, List.set_cons_succ]
      refine rg_take (v := ?_) 6 rfl (by kernel_rfl) (by kernel_rfl) (by kernel_rfl) (fun _ _ _ h => h) (by rfl) ?_ ?_; rotate_left
      · (intro x hx; go_simp; first | done | with_reducible rfl | (rw [if_pos (by omega)]; try with_reducible rfl) | (rw [if_neg (by omega)]; try with_reducible rfl))
      try simp only [Act.put, List.setIfInBounds_toArray, List.set_cons_zero, List.set_cons_succ]
      refine rg_step 5 rfl (by kernel_rfl) (by rfl) (fun K hK => ?_)
      go_simp
      refine (cloneOp_nil _).mono ?_
      rintro e u1 ⟨rfl, rfl⟩
      refine hK.out _ _ (Ext.refl _ _) ?_
      clear hK K; try simp only [Act.put, List.setIfInBounds_toArray, List.set_cons_zero, List.set_cons_succ]
      refine rg_step 7 rfl (by kernel_rfl) (by rfl) (fun K hK => ?_)
      --RAW
      apply wp_store_one 73
      case ho => exact rfl
      case hx => exact rfl
      case hy => exact rfl
      case hg => exact P
      case hle => simp
      case hv => rfl
      case hi => kernel_rfl
      case h1 => rfl
      intro wn g5 P5
      have x5 := Ext.of_grown (M := fun j => j = g) g5 (fun j h => by injection h with h; exact h.symm)
      replace e6 := e6.trans x5
      replace P : wn.heap[g]? = some (.cells (cfC c nilS nilS) 76 (0, 0)) := P5
      refine hK.out _ _ x5 ?_
      clear x5 g5 P5
      clear hK K
      refine rg_take (v := ?_) 8 rfl (by kernel_rfl) (by kernel_rfl) (by kernel_rfl) (fun _ _ _ h => h) (by rfl) ?_ ?_; rotate_left
      · (intro x hx; go_simp; first | done | with_reducible rfl | (rw [if_pos (by omega)]; try with_reducible rfl) | (rw [if_neg (by omega)]; try with_reducible rfl))
      try simp only [Act.put, List.setIfInBounds_toArray, List.set_cons_zero, List.set_cons_succ]
      refine rg_step 9 rfl (by kernel_rfl) (by rfl) (fun K hK => ?_)
      --RAW
      apply wp_store_one 74
      case ho => exact rfl
      case hx => exact rfl
      case hy => exact rfl
      case hg => exact P
      case hle => simp
      case hv => rfl
      case hi => kernel_rfl
      case h1 => rfl
      intro wn g5 P5
      have x5 := Ext.of_grown (M := fun j => j = g) g5 (fun j h => by injection h with h; exact h.symm)
      replace e6 := e6.trans x5
      replace P : wn.heap[g]? = some (.cells (cfC c nilS nilS) 76 (0, 0)) := P5
      refine hK.out _ _ x5 ?_
      clear x5 g5 P5
      clear hK K
      refine rg_done (by kernel_rfl) ?_
      --TAIL
      have R1 := (e6.block (g + 1) (heap_lt R0) (by omega)).trans R0
      have b1 : Below g w wn := HB.out.trans (e6.below (H := g) (by omega) (fun k hk e => by omega))
      clear kA kB e6 R0
      go_wp2_with (first | ((with_reducible apply at_load_row 76); (case hx => exact rfl); (case hg => exact P); (case hu => exact Tryz.underlying76); (case hd => rfl); (case hi => kernel_rfl)) | ((with_reducible apply at_store_part 76); (case hx => exact rfl); (case hy => exact rfl); (case hg => exact R1); (case hle => simp); (case hi => kernel_rfl); (case h1 => kernel_rfl); (intro w7 g7 R7; replace R7 := Lib.hid R7)))
      have R8 := R7.out
      rw [spliceZ] at R8
      refine bodyPost_cell (g + 1) _ _ _ rfl rfl R8 Tryz.underlying76 rfl (by kernel_rfl) rfl ?_
      exact ⟨rfl, by rw [HG.out]; exact below_grown b1 g7 (by have := heap_lt R1; omega) (by omega)⟩
    · go_simp
      refine hK.out _ _ (Ext.refl _ _) ?_
      clear hK K; try simp only [Act.put, List.setIfInBounds_toArray, List.set_cons_zero, List.set_cons_succ]
      refine rg_step 2 rfl (by kernel_rfl) (by rfl) (fun K hK => ?_)
      go_simp
      refine (cloneFx_nil _).mono ?_
      rintro e u1 ⟨rfl, rfl⟩
      refine hK.out _ _ (Ext.refl _ _) ?_
      clear hK K; try simp only [Act.put, List.setIfInBounds_toArray, List.set_cons_zero, List.set_cons_succ]
      refine rg_take (v := ?_) 6 rfl (by kernel_rfl) (by kernel_rfl) (by kernel_rfl) (fun _ _ _ h => h) (by rfl) ?_ ?_; rotate_left
      · (intro x hx; go_simp; first | done | with_reducible rfl | (rw [if_pos (by omega)]; try with_reducible rfl) | (rw [if_neg (by omega)]; try with_reducible rfl))
      try simp only [Act.put, List.setIfInBounds_toArray, List.set_cons_zero, List.set_cons_succ]
      refine rg_step 5 rfl (by kernel_rfl) (by rfl) (fun K hK => ?_)
      go_simp
      refine (cloneOp_nil _).mono ?_
      rintro e u1 ⟨rfl, rfl⟩
      refine hK.out _ _ (Ext.refl _ _) ?_
      clear hK K; try simp only [Act.put, List.setIfInBounds_toArray, List.set_cons_zero, List.set_cons_succ]
      refine rg_step 7 rfl (by kernel_rfl) (by rfl) (fun K hK => ?_)
      --RAW
      apply wp_store_one 73
      case ho => exact rfl
      case hx => exact rfl
      case hy => exact rfl
      case hg => exact P
      case hle => simp
      case hv => rfl
      case hi => kernel_rfl
      case h1 => rfl
      intro wn g5 P5
      have x5 := Ext.of_grown (M := fun j => j = g) g5 (fun j h => by injection h with h; exact h.symm)
      replace e6 := e6.trans x5
      replace P : wn.heap[g]? = some (.cells (cfC c nilS nilS) 76 (0, 0)) := P5
      refine hK.out _ _ x5 ?_
      clear x5 g5 P5
      clear hK K
      refine rg_take (v := ?_) 8 rfl (by kernel_rfl) (by kernel_rfl) (by kernel_rfl) (fun _ _ _ h => h) (by rfl) ?_ ?_; rotate_left
      · (intro x hx; go_simp; first | done | with_reducible rfl | (rw [if_pos (by omega)]; try with_reducible rfl) | (rw [if_neg (by omega)]; try with_reducible rfl))
      try simp only [Act.put, List.setIfInBounds_toArray, List.set_cons_zero, List.set_cons_succ]
      refine rg_step 9 rfl (by kernel_rfl) (by rfl) (fun K hK => ?_)
      --RAW
      apply wp_store_one 74
      case ho => exact rfl
      case hx => exact rfl
      case hy => exact rfl
      case hg => exact P
      case hle => simp
      case hv => rfl
      case hi => kernel_rfl
      case h1 => rfl
      intro wn g5 P5
      have x5 := Ext.of_grown (M := fun j => j = g) g5 (fun j h => by injection h with h; exact h.symm)
      replace e6 := e6.trans x5
      replace P : wn.heap[g]? = some (.cells (cfC c nilS nilS) 76 (0, 0)) := P5
      refine hK.out _ _ x5 ?_
      clear x5 g5 P5
      clear hK K
      refine rg_done (by kernel_rfl) ?_
      --TAIL
      have R1 := (e6.block (g + 1) (heap_lt R0) (by omega)).trans R0
      have b1 : Below g w wn := HB.out.trans (e6.below (H := g) (by omega) (fun k hk e => by omega))
      clear kA kB e6 R0
      go_wp2_with (first | ((with_reducible apply at_load_row 76); (case hx => exact rfl); (case hg => exact P); (case hu => exact Tryz.underlying76); (case hd => rfl); (case hi => kernel_rfl)) | ((with_reducible apply at_store_part 76); (case hx => exact rfl); (case hy => exact rfl); (case hg => exact R1); (case hle => simp); (case hi => kernel_rfl); (case h1 => kernel_rfl); (intro w7 g7 R7; replace R7 := Lib.hid R7)))
      have R8 := R7.out
      rw [spliceZ] at R8
      refine bodyPost_cell (g + 1) _ _ _ rfl rfl R8 Tryz.underlying76 rfl (by kernel_rfl) rfl ?_
      exact ⟨rfl, by rw [HG.out]; exact below_grown b1 g7 (by have := heap_lt R1; omega) (by omega)⟩
  · go_simp
    refine hK.out _ _ (Ext.refl _ _) ?_
    clear hK K; try simp only [Act.put, List.setIfInBounds_toArray, List.set_cons_zero, List.set_cons_succ]
    refine rg_step 1 rfl (by kernel_rfl) (by rfl) (fun K hK => ?_)
    go_simp
    refine hK.out _ _ (Ext.refl _ _) ?_
    clear hK K; try simp only [Act.put, List.setIfInBounds_toArray, List.set_cons_zero, List.set_cons_succ]
    refine rg_step 2 rfl (by kernel_rfl) (by rfl) (fun K hK => ?_)
    go_simp
    refine (cloneFx_nil _).mono ?_
    rintro e u1 ⟨rfl, rfl⟩
    refine hK.out _ _ (Ext.refl _ _) ?_
    clear hK K; try simp only [Act.put, List.setIfInBounds_toArray, List.set_cons_zero, List.set_cons_succ]
    refine rg_take (v := ?_) 6 rfl (by kernel_rfl) (by kernel_rfl) (by kernel_rfl) (fun _ _ _ h => h) (by rfl) ?_ ?_; rotate_left
    · (intro x hx; go_simp; first | done | with_reducible rfl | (rw [if_pos (by omega)]; try with_reducible rfl) | (rw [if_neg (by omega)]; try with_reducible rfl))
    try simp only [Act.put, List.setIfInBounds_toArray, List.set_cons_zero, List.set_cons_succ]
    refine rg_step 5 rfl (by kernel_rfl) (by rfl) (fun K hK => ?_)
    go_simp
    refine (cloneOp_nil _).mono ?_
    rintro e u1 ⟨rfl, rfl⟩
    refine hK.out _ _ (Ext.refl _ _) ?_
    clear hK K; try simp only [Act.put, List.setIfInBounds_toArray, List.set_cons_zero, List.set_cons_succ]
    refine rg_step 7 rfl (by kernel_rfl) (by rfl) (fun K hK => ?_)
    --RAW
    apply wp_store_one 73
    case ho => exact rfl
    case hx => exact rfl
    case hy => exact rfl
    case hg => exact P
    case hle => simp
    case hv => rfl
    case hi => kernel_rfl
    case h1 => rfl
    intro wn g5 P5
    have x5 := Ext.of_grown (M := fun j => j = g) g5 (fun j h => by injection h with h; exact h.symm)
    replace e6 := e6.trans x5
    replace P : wn.heap[g]? = some (.cells (cfC c nilS nilS) 76 (0, 0)) := P5
    refine hK.out _ _ x5 ?_
    clear x5 g5 P5
    clear hK K
    refine rg_take (v := ?_) 8 rfl (by kernel_rfl) (by kernel_rfl) (by kernel_rfl) (fun _ _ _ h => h) (by rfl) ?_ ?_; rotate_left
    · (intro x hx; go_simp; first | done | with_reducible rfl | (rw [if_pos (by omega)]; try with_reducible rfl) | (rw [if_neg (by omega)]; try with_reducible rfl))
    try simp only [Act.put, List.setIfInBounds_toArray, List.set_cons_zero, List.set_cons_succ]
    refine rg_step 9 rfl (by kernel_rfl) (by rfl) (fun K hK => ?_)
    --RAW
    apply wp_store_one 74
    case ho => exact rfl
    case hx => exact rfl
    case hy => exact rfl
    case hg => exact P
    case hle => simp
    case hv => rfl
    case hi => kernel_rfl
    case h1 => rfl
    intro wn g5 P5
    have x5 := Ext.of_grown (M := fun j => j = g) g5 (fun j h => by injection h with h; exact h.symm)
    replace e6 := e6.trans x5
    replace P : wn.heap[g]? = some (.cells (cfC c nilS nilS) 76 (0, 0)) := P5
    refine hK.out _ _ x5 ?_
    clear x5 g5 P5
    clear hK K
    refine rg_done (by kernel_rfl) ?_
    --TAIL
    have R1 := (e6.block (g + 1) (heap_lt R0) (by omega)).trans R0
    have b1 : Below g w wn := HB.out.trans (e6.below (H := g) (by omega) (fun k hk e => by omega))
    clear kA kB e6 R0
    go_wp2_with (first | ((with_reducible apply at_load_row 76); (case hx => exact rfl); (case hg => exact P); (case hu => exact Tryz.underlying76); (case hd => rfl); (case hi => kernel_rfl)) | ((with_reducible apply at_store_part 76); (case hx => exact rfl); (case hy => exact rfl); (case hg => exact R1); (case hle => simp); (case hi => kernel_rfl); (case h1 => kernel_rfl); (intro w7 g7 R7; replace R7 := Lib.hid R7)))
    have R8 := R7.out
    rw [spliceZ] at R8
    refine bodyPost_cell (g + 1) _ _ _ rfl rfl R8 Tryz.underlying76 rfl (by kernel_rfl) rfl ?_
    exact ⟨rfl, by rw [HG.out]; exact below_grown b1 g7 (by have := heap_lt R1; omega) (by omega)⟩
set_option maxRecDepth 100000 in
set_option maxHeartbeats 4000000 in
theorem serveNew_any (w : World) (c : Cf) (U : UsI c) : Calls Tryz.prog 61 #[.agg (cfC c nilS nilS)] w (PtrPost w) := by
  have P0 := heap_alloc_new w (.cells (cfC c nilS nilS) 76)
  have b0 : Below w.heap.size w (w.alloc (.cells (cfC c nilS nilS) 76)) := (Below.refl _ w).alloc (Nat.le_refl _) _
  have HU := Lib.hid U
  clear U
  go_enter Tryz.func61, Tryz.ntmps61
  go_upto_region 1 with fail
  generalize w.alloc (.cells (cfC c nilS nilS) 76) = w0 at P0 b0 ⊢
  obtain ⟨g, hg⟩ : ∃ g, w.heap.size = g := ⟨_, rfl⟩
  rw [hg] at P0 ⊢
  have HG := Lib.hid hg
  have HB := Lib.hid b0
  clear hg b0
  go_wp2_with ((with_reducible apply at_load_row 76); (case hx => exact rfl); (case hg => exact P0); (case hu => exact Tryz.underlying76); (case hd => rfl); (case hi => kernel_rfl))
  refine (check_any w0 c).mono ?_
  rw [HU.out.chk]
  rintro e w1 ⟨rfl, q1⟩
  have P1 := below_at q1 P0 (heap_lt P0)
  have HB1 := Lib.hid (HB.out.trans (q1.mono HB.out.size))
  have f1 := (cells_of P1).1
  clear P0 HB q1
  go_wp2_with fail
  go_loopw [5, 18] (fun s v wr => s = .slice none 0 0 ∧ v = .int .i64 0 ∧ wr = w1) (fun _ _ _ => 0)
  case atStart => exact ⟨rfl, rfl, rfl⟩
  case round =>
    obtain ⟨rfl, rfl, rfl⟩ := hrel
    go_wp2_with fail
    refine (poolNew_any _ c.fst c.lst HU.out.f HU.out.l).mono ?_
    rintro e w2 ⟨⟨b, _, rfl⟩, q2⟩
    have P2 := below_at q2 P1 (heap_lt P1)
    have HB2 := Lib.hid (HB1.out.trans (q2.mono HB1.out.size))
    clear f1 P1 HB1 q2
    go_wp2_with ((with_reducible apply at_load_row 76); (case hx => exact rfl); (case hg => exact P2); (case hu => exact Tryz.underlying76); (case hd => rfl); (case hi => kernel_rfl))
    refine (copy_nil w2 c).mono ?_
    rintro e w3 ⟨rfl, q3⟩
    have b3 := HB2.out.trans (q3.mono HB2.out.size)
    clear P2 HB2 q3
    go_wp2_with fail
    go_ret2
    exact ⟨⟨_, b3.size, rfl⟩, b3.alloc b3.size _⟩
end Go.Proofs.YtccbdaffjkdpgaaGreatDoor
