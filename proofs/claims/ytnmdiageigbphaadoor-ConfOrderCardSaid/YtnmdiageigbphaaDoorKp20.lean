/-
  conf: same, of one and the same.
-/
import Derived.Test.YtnmdiageigbphaaDoorKp19
namespace Go.Proofs.YtnmdiageigbphaaDoor
open Go.RowKit

theorem neq_self_ad (w : World) (m : Ad4) : (binOp .neq 26 (adV m) (adV m)).run Tryd.prog w = .ok (.bool false) w := by
  have := run_neq_ad w m m
  rwa [adeq_self] at this
theorem neq_self_mac (w : World) (m : Mac6) : (binOp .neq 30 (macV m) (macV m)).run Tryd.prog w = .ok (.bool false) w := by
  have := run_neq_of (run_eql_mac w m m)
  rwa [(meq_iff m m).2 rfl] at this
set_option maxRecDepth 100000 in
set_option maxHeartbeats 8000000 in
theorem same_self (w : World) (c : Cf) : Calls Tryd.prog 10 #[.agg (cfC c nilS nilS), .agg (cfC c nilS nilS)] w (fun e w' => e = .returned (.bool true) ∧ Below w.heap.size w w') := by
  have P0 : ((w.alloc (.cells (cfC c nilS nilS) 43)).alloc (.cells (cfC c nilS nilS) 43)).heap[w.heap.size]? = some (.cells (cfC c nilS nilS) 43 (0, 0)) := heap_alloc_of (heap_alloc_new w _)
  have R0 : ((w.alloc (.cells (cfC c nilS nilS) 43)).alloc (.cells (cfC c nilS nilS) 43)).heap[w.heap.size + 1]? = some (.cells (cfC c nilS nilS) 43 (0, 0)) := heap_alloc_at (by simp)
  have b0 : Below w.heap.size w ((w.alloc (.cells (cfC c nilS nilS) 43)).alloc (.cells (cfC c nilS nilS) 43)) := ((Below.refl _ w).alloc (Nat.le_refl _) _).alloc (by simp) _
  have n1 := fun w => neq_self_ad w c.own
  have n2 := fun w => neq_self_ad w c.lanA
  have n3 := fun w => neq_self_mac w c.lm
  have n4 := fun w => neq_self_mac w c.wm
  have n5 := fun w => neq_self_ad w c.fst
  have n6 := fun w => neq_self_ad w c.lst
  have n7 := fun w => neq_self_ad w c.dns
  go_enter Tryd.func10, Tryd.ntmps10
  go_upto_region 1 with fail
  generalize (w.alloc (.cells (cfC c nilS nilS) 43)).alloc (.cells (cfC c nilS nilS) 43) = w1 at P0 R0 b0 ⊢
  obtain ⟨g, hg⟩ : ∃ g, w.heap.size = g := ⟨_, rfl⟩
  rw [hg] at P0 R0 b0 ⊢
  have HG := Lib.hid hg
  have f0 := (cells_of P0).1
  have f1 := (cells_of R0).1
  clear hg
  go_wp2_with fail
  go_loopw [5] (fun i wr => i = .int .i64 0 ∧ wr = w1) (fun _ _ => 0)
  case atStart => exact ⟨rfl, rfl⟩
  case round =>
    obtain ⟨rfl, rfl⟩ := hrel
    have f0 := (cells_of P0).1
    go_wp2_with fail
    go_loopw [6] (fun i w3 => i = .int .i64 0 ∧ w3 = wr) (fun _ _ => 0)
    case atStart => exact ⟨rfl, rfl⟩
    case round =>
      obtain ⟨rfl, rfl⟩ := hrel
      have f0 := (cells_of P0).1
      go_wp2_with fail
      go_ret
      exact ⟨rfl, by rw [HG.out]; exact b0⟩
end Go.Proofs.YtnmdiageigbphaaDoor
