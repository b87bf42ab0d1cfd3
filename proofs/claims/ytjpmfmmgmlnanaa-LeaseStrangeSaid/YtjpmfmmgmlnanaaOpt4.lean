/-
  opt.Addr, and the reference's.
-/
import Derived.Test.YtjpmfmmgmlnanaaOpt3
import Derived.Test.YtjpmfmmgmlnanaaAd4
namespace Go.Proofs.Ytjpmfmmgmlnanaa
open Go.RowKit

def scA (l : List Op1) (code : Int) : Ad4 := if scK l code = true then adOf (fdB l code) else ⟨0, 0, 0, 0⟩
def AdOkPost (w : World) (a : Ad4) (ok : Bool) (e : Ending) (w' : World) : Prop := e = .returned (.tuple #[adV a, .bool ok]) ∧ Below w.heap.size w w'
theorem adC_zero : adC ⟨0, 0, 0, 0⟩ = #[.int .u8 0, .int .u8 0, .int .u8 0, .int .u8 0] := by simp

theorem of4_scN (l : List Op1) (code : Int) : of4 (scN l code) = scA l code := by
  unfold scN scA scK
  by_cases h : fdK l code = true ∧ (fdB l code).length = 4
  · rw [if_pos h, if_pos (by rw [h.1]; simp [h.2])]
    obtain ⟨_, h4⟩ := h
    generalize fdB l code = bd at h4
    match bd, h4 with
    | [x, y, z, u], _ => rw [of4_be]; simp [adOf]
  · rw [if_neg h, if_neg (by intro e; rw [Bool.and_eq_true] at e; exact h ⟨e.1, by simpa using e.2⟩)]
    rfl
theorem scN_lt (l : List Op1) (code : Int) : scN l code < 4294967296 := by
  unfold scN
  split
  · rename_i h
    have := beN_lt (fdB l code)
    rw [h.2] at this
    omega
  · omega

end Go.Proofs.Ytjpmfmmgmlnanaa
