/-
  opt.Addr, and the reference's.
-/
import Derived.Test.YtidohmcneoldcaaOpt3
import Derived.Test.YtidohmcneoldcaaAd4
namespace Go.Proofs.Ytidohmcneoldcaa
open Go.RowKit

def scA (l : List Op1) (code : Int) : Ad4 := if scK l code = true then adOf (fdB l code) else ⟨0, 0, 0, 0⟩
def AdOkPost (w : World) (a : Ad4) (ok : Bool) (e : Ending) (w' : World) : Prop := e = .returned (.tuple #[adV a, .bool ok]) ∧ Below w.heap.size w w'
theorem adC_zero : adC ⟨0, 0, 0, 0⟩ = #[.int .u8 0, .int .u8 0, .int .u8 0, .int .u8 0] := by simp

theorem of4_scN (l : List Op1) (code : Int) : of4 (scN l code) = scA l code := by
  unfold scN scA scK
  by_cases h : fdK l code = true ∧ (fdB l code).length = 4
  · rw [if_pos h, if_pos (by rw [h.1]; simp [h.2])]
    obtain ⟨_, h4⟩ := h
    generalize fdB l code = bd at h4
    match bd, h4 with
    | [x, y, z, u], _ => rw [of4_be]; simp [adOf]
  · rw [if_neg h, if_neg (by intro e; rw [Bool.and_eq_true] at e; exact h ⟨e.1, by simpa using e.2⟩)]
    rfl
theorem scN_lt (l : List Op1) (code : Int) : scN l code < 4294967296 := by
  unfold scN
  split
  · rename_i h
    have := beN_lt (fdB l code)
    rw [h.2] at this
    omega
  · omega

set_option maxRecDepth 100000 in
set_option maxHeartbeats 1000000 in
theorem roaddr_any (w : World) (A : Option Addr) (n c : Nat) (l : List Op1) (code : Int) (h : OS w w.heap.size A n c l) :
    Calls Try.prog 22 #[.slice A n c, .int .i64 code] w (AdOkPost w (scA l code) (scK l code)) := by
  have hlt := scN_lt l code
  rw [← of4_scN]
  go_enter Try.func22, Try.ntmps22
  go_wp2_with fail
  have b0 : ∀ o, Below w.heap.size w (w.alloc o) := fun o => (Below.refl _ w).alloc (Nat.le_refl _) o
  refine (rsecs_any _ A n c l code ((h.below (b0 _)).more (by simp))).mono ?_
  rintro e w1 ⟨rfl, hb1⟩
  have R1 : w1.heap[w.heap.size]? = some (.cells #[.int .u8 0, .int .u8 0, .int .u8 0, .int .u8 0] 39 (0, 0)) := below_at hb1 (heap_alloc_at rfl) (by simp)
  have q1 := (b0 _).trans (hb1.mono (by simp))
  have z1 := hb1.size
  simp at z1
  have R := Lib.hid R1
  clear R1 hb1
  go_wp2_with fail
  refine (of4_any w1 (scN l code) (by omega) (by omega)).mono ?_
  rintro e w2 ⟨rfl, hb2⟩
  have R2 := Lib.hid (below_at hb2 R.out (by omega))
  have q2 := q1.trans (hb2.mono (by omega))
  clear hb2 R
  go_wp2_with ((with_reducible apply at_store_part 39); (case hx => exact rfl); (case hy => exact rfl); (case hg => exact R2.out); (case hle => simp); (case hi => kernel_rfl); (case h1 => kernel_rfl); (intro w3 g3 R3; replace R3 := Lib.hid R3))
  have R3' : w3.heap[w.heap.size]? = some (.cells (adC (of4 (scN l code))) 39 (0, 0)) := R3.out
  refine bodyPost_cell_tmp w.heap.size _ _ _ rfl rfl R3' Try.underlying39 rfl (by kernel_rfl) rfl ?_
  exact ⟨rfl, below_grown q2 g3 (by have := q2.size; omega) (by omega)⟩
end Go.Proofs.Ytidohmcneoldcaa
