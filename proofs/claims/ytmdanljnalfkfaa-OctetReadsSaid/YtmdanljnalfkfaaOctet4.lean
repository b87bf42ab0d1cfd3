/-
  awake: the example that each statement of package gatehouselaw1 asks first: it answers true.
-/
import Derived.Test.YtmdanljnalfkfaaOctet3
namespace Go.Proofs.Ytmdanljnalfkfaa
open Go.RowKit

set_option maxHeartbeats 400000 in
theorem awake_any (w : World) : Calls Try.prog 8 #[] w (TruePost w) := by
  go_enter Try.func8, Try.ntmps8
  go_wp2_with fail
  refine (read_any _ _ 3 3 [1, 2, 3] (BS.block (t := 5) (fr := (0, 0)) [1, 2, 3] (heap_alloc_new w _) rfl (by simp [maxLen])) (by simp)).mono ?_
  rintro e w1 ⟨g, rfl, hg, hrd, hb⟩
  go_wp2_with fail
  refine (ru16_any _ g _ _ hrd (by simp)).mono ?_
  rintro e w2 ⟨rfl, hrd2, hg2⟩
  rw [show beN (rdTake [1, 2, 3] 2) = 258 by decide]
  rw [show rdDrop [1, 2, 3] 2 = [3] by decide, show rdSh [1, 2, 3] 2 false = false by decide] at hrd2
  go_wp2_with fail
  refine (ru8_any _ g _ _ hrd2 (by simp)).mono ?_
  rintro e w3 ⟨rfl, hrd3, hg3⟩
  rw [show beN (rdTake [3] 1) = 3 by decide]
  rw [show rdDrop [3] 1 = [] by decide, show rdSh [3] 1 false = false by decide] at hrd3
  go_wp2_with fail
  refine (ru8_any _ g _ _ hrd3 (by simp)).mono ?_
  rintro e w4 ⟨rfl, hrd4, hg4⟩
  rw [show beN (rdTake [] 1) = 0 by decide]
  rw [show rdDrop [] 1 = [] by decide, show rdSh [] 1 false = true by decide] at hrd4
  go_wp2_with fail
  refine (short_any _ g _ _ hrd4).mono ?_
  rintro e w5 ⟨rfl, rfl⟩
  go_wp2_with fail
  refine (left_any _ g _ _ hrd4).mono ?_
  rintro e w5 ⟨rfl, rfl⟩
  go_wp2_with fail
  go_ret
  have s0 : w.heap.size + 1 ≤ w1.heap.size := by have := hb.size; simpa using this
  have s2 := hg2.size
  have s3 := hg3.size
  simp at hg
  exact ⟨rfl, below_grown (below_grown (below_grown (((Below.refl _ w).alloc (Nat.le_refl _) _).trans (hb.mono (by simp))) hg2 (by omega) (by omega)) hg3 (by omega) (by omega)) hg4 (by omega) (by omega)⟩
end Go.Proofs.Ytmdanljnalfkfaa
