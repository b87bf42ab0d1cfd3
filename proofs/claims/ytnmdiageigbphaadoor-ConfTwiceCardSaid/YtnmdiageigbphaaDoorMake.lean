/-
  make([]byte, k): noughts.
-/
import Derived.Test.YtnmdiageigbphaaDoorOctet6
import Derived.Laws.MakeOwn
import Derived.Laws.OwnMore
namespace Go.Proofs.YtnmdiageigbphaaDoor
open Go.RowKit

theorem run_make8 (k : Nat) (hk : k ≤ 1000000) (w : World) : (Instr.makeSlice 70 (.int .i64 (k : Int)) (.int .i64 (k : Int))).run Tryd.prog w =
    .ok (.slice (some ⟨w.heap.size, 0, none⟩) k k) (w.alloc (.cells (bv (List.replicate k 0)).toArray 5)) := by
  obtain ⟨i0, hi, hz0, hz1, hz2⟩ := info_parts infoU8
  have hr := run_make (P := Tryd.prog) w 70 5 i0 (.int .u8 0) Tryd.underlying70 hi hz0 .i64 .i64 (k : Int) (k : Int) (by omega) (by omega) (by rw [hz2]; omega) (by omega)
  simp only [Int.toNat_natCast] at hr
  rw [hr, hz1]
  have e : madeCells (Value.int .u8 0).cells (k * 1) = (bv (List.replicate k 0)).toArray := by
    have h1 := toList_madeCells_one (.int .u8 0) k
    rw [Nat.mul_one]
    have h2 : (madeCells (Value.int .u8 0).cells k).toList = bv (List.replicate k 0) := by
      rw [show (Value.int .u8 0).cells = #[Value.int .u8 0] by rfl, h1]
      simp [bv]
    rw [← h2]
  rw [e]
theorem bs_zeros (w : World) (k : Nat) (hk : k ≤ 1000000) : BS (w.alloc (.cells (bv (List.replicate k 0)).toArray 5)) (w.alloc (.cells (bv (List.replicate k 0)).toArray 5)).heap.size (some ⟨w.heap.size, 0, none⟩) k k (List.replicate k 0) := by
  have := BS.block (List.replicate k 0) (heap_alloc_new w (.cells (bv (List.replicate k 0)).toArray 5)) rfl (by simp [maxLen]; omega)
  simpa using this

theorem bs_zeros_at (w : World) (g k : Nat) (hg : w.heap.size = g) (hk : k ≤ 1000000) : BS (w.alloc (.cells (bv (List.replicate k 0)).toArray 5)) (w.alloc (.cells (bv (List.replicate k 0)).toArray 5)).heap.size (some ⟨g, 0, none⟩) k k (List.replicate k 0) := by
  subst hg; exact bs_zeros w k hk
end Go.Proofs.YtnmdiageigbphaaDoor
