/-
  conf: the statements' own: Usual of the reference, own, same; awake.
-/
import Derived.Test.YtnmdiageigbphaaDoorKp18
namespace Go.Proofs.YtnmdiageigbphaaDoor
open Go.RowKit

set_option maxRecDepth 100000 in
set_option maxHeartbeats 4000000 in
theorem own_any (w : World) (c : Cf) : Calls Tryd.prog 11 #[.agg (cfC c nilS nilS)] w (fun e w' => e = .returned (.agg (cfC c nilS nilS)) ∧ Below w.heap.size w w') := by
  have P0 : ((w.alloc (.cells (cfC c nilS nilS) 34)).alloc (.cells cfZ 43)).heap[w.heap.size]? = some (.cells (cfC c nilS nilS) 34 (0, 0)) := heap_alloc_of (heap_alloc_new w _)
  have R0 : ((w.alloc (.cells (cfC c nilS nilS) 34)).alloc (.cells cfZ 43)).heap[w.heap.size + 1]? = some (.cells cfZ 43 (0, 0)) := heap_alloc_at (by simp)
  have b0 : Below w.heap.size w ((w.alloc (.cells (cfC c nilS nilS) 34)).alloc (.cells cfZ 43)) := ((Below.refl _ w).alloc (Nat.le_refl _) _).alloc (by simp) _
  go_enter Tryd.func11, Tryd.ntmps11
  go_upto_region 1 with fail
  change Code.wp _ _ _ _ ((w.alloc (.cells (cfC c nilS nilS) 34)).alloc (.cells cfZ 43))
  generalize (w.alloc (.cells (cfC c nilS nilS) 34)).alloc (.cells cfZ 43) = w1 at P0 R0 b0 ⊢
  obtain ⟨g, hg⟩ : ∃ g, w.heap.size = g := ⟨_, rfl⟩
  rw [hg] at P0 R0 b0 ⊢
  have HG := Lib.hid hg
  have f0 := (cells_of P0).1
  clear hg
  go_upto_region 2 with ((with_reducible apply at_store_new 43); (case hx => exact rfl); (case hy => exact rfl); (case hg => first | rfl | simp); (case hi => kernel_rfl); (case hold => rfl); (case h1 => kernel_rfl))
  change Code.wp _ _ _ _ (w1.alloc (.cells (cfC c nilS nilS) 43))
  have q2 : Below w1.heap.size w1 (w1.alloc (.cells (cfC c nilS nilS) 43)) := (Below.refl _ w1).alloc (Nat.le_refl _) _
  have X2 := heap_alloc_new w1 (.cells (cfC c nilS nilS) 43)
  have P2 := below_at q2 P0 (heap_lt P0)
  have R2 := below_at q2 R0 (heap_lt R0)
  have b2 := b0.trans (q2.mono (Nat.le_of_lt (heap_lt P0)))
  generalize w1.alloc (.cells (cfC c nilS nilS) 43) = w2 at q2 X2 P2 R2 b2 ⊢
  have hz := heap_lt R0
  obtain ⟨gx, hgx⟩ : ∃ g, w1.heap.size = g := ⟨_, rfl⟩
  rw [hgx] at X2 hz ⊢
  clear q2 P0 R0 b0 f0 hgx
  have f2 := (cells_of P2).1
  go_wp2_with fail
  go_loopw [4] (fun i wr => i = .int .i64 0 ∧ wr = w2) (fun _ _ => 0)
  case atStart => exact ⟨rfl, rfl⟩
  case round =>
    obtain ⟨rfl, rfl⟩ := hrel
    have f2 := (cells_of P2).1
    go_wp2_with fail
    go_loopw [5] (fun i w3 => i = .int .i64 0 ∧ w3 = wr) (fun _ _ => 0)
    case atStart => exact ⟨rfl, rfl⟩
    case round =>
      obtain ⟨rfl, rfl⟩ := hrel
      have f2 := (cells_of P2).1
      go_wp2_with (first | ((with_reducible apply at_load_row 43); (case hx => exact rfl); (case hg => exact X2); (case hu => exact Tryd.underlying43); (case hd => rfl); (case hi => kernel_rfl)) | ((with_reducible apply at_store_part 43); (case hx => exact rfl); (case hy => exact rfl); (case hg => exact R2); (case hle => simp); (case hi => kernel_rfl); (case h1 => kernel_rfl); (intro w3 g3 P3; replace P3 := Lib.hid P3)))
      have R4 := P3.out
      rw [spliceZ] at R4
      refine bodyPost_cell (g + 1) _ _ _ rfl rfl R4 Tryd.underlying43 rfl (by kernel_rfl) rfl ⟨rfl, ?_⟩
      rw [HG.out]
      exact below_grown b2 g3 (Nat.le_of_lt (heap_lt P2)) (Nat.le_succ g)
end Go.Proofs.YtnmdiageigbphaaDoor
