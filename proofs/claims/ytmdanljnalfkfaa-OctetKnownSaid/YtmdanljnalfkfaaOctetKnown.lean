/-
  The walk of the statement OctetKnown: it answers true.
-/
import Derived.Test.YtmdanljnalfkfaaOctet4
import Derived.Test.YtmdanljnalfkfaaOctet5
namespace Go.Proofs.Ytmdanljnalfkfaa
open Go.RowKit

set_option maxHeartbeats 1000000 in
theorem known_walk (w : World) : Calls Try.prog 6 #[] w (TruePost w) := by
  go_enter Try.func6, Try.ntmps6
  go_wp2_with fail
  refine (awake_any w).mono ?_
  rintro e w1 ⟨rfl, hb1⟩
  go_wp2_with fail
  refine (read_any _ _ 1 1 [9] (BS.block (t := 5) (fr := (0, 0)) [9] (heap_alloc_new w1 _) rfl (by simp [maxLen])) (by simp)).mono ?_
  rintro e w2 ⟨g, rfl, hg, hr2, hb2⟩
  go_wp2_with fail
  refine (bytes_any w2 g (-1) [9] false hr2 (by simp)).mono ?_
  rintro e w3 ⟨A3, n3, c3, rfl, ho3, hr3, hg3⟩
  rw [show rdTake [9] (-1) = [] by decide] at ho3
  rw [show rdDrop [9] (-1) = [] by decide, show rdSh [9] (-1) false = true by decide] at hr3
  obtain rfl : 0 = n3 := ho3.1.symm
  go_wp2_with fail
  refine (read_any _ _ 1 1 [9] (BS.block (t := 5) (fr := (0, 0)) [9] (heap_alloc_new w3 _) rfl (by simp [maxLen])) (by simp)).mono ?_
  rintro e w4 ⟨g2, rfl, hg2, hr4, hb4⟩
  have hr3' := (hr3.alloc _).below hb4 (by have := hr3.lt; simp; omega)
  go_wp2_with fail
  refine (bytes_any w4 g2 0 [9] false hr4 (by simp)).mono ?_
  rintro e w5 ⟨A5, n5, c5, rfl, ho5, hr5, hg5⟩
  rw [show rdTake [9] 0 = [] by decide] at ho5
  rw [show rdDrop [9] 0 = [9] by decide, show rdSh [9] 0 false = false by decide] at hr5
  obtain rfl : 0 = n5 := ho5.1.symm
  have hgg : g < g2 := by have := hr3.lt; simp at hg2; omega
  have hr5' := hr3'.grown hg5 hgg
  go_wp2_with fail
  refine (short_any _ g _ _ hr5').mono ?_
  rintro e w6 ⟨rfl, rfl⟩
  go_wp2_with fail
  refine (short_any _ g2 _ _ hr5).mono ?_
  rintro e w6 ⟨rfl, rfl⟩
  go_wp2_with fail
  refine (ru32_any _ g2 _ _ hr5 (by simp)).mono ?_
  rintro e w6 ⟨rfl, hr6, hg6⟩
  rw [show beN (rdTake [9] 4) = 0 by decide]
  rw [show rdDrop [9] 4 = [] by decide, show rdSh [9] 4 false = true by decide] at hr6
  go_wp2_with fail
  refine (short_any _ g2 _ _ hr6).mono ?_
  rintro e w7 ⟨rfl, rfl⟩
  go_wp2_with fail
  refine (w16_any _ _ 0 0 [] 65537 (BS.nil_ _ _) (by simp)).mono ?_
  rintro e w7 ⟨A7, n7, c7, rfl, ho7, hb7⟩
  go_wp2_with fail
  refine (w32_any _ _ n7 c7 _ 2147483648 ho7.bs (by simp) (by omega) (by omega)).mono ?_
  rintro e w8 ⟨A8, n8, c8, rfl, ho8, hb8⟩
  have x8 := run_str ho8.bs
  rw [show str ([] ++ [bN (65537 / 256), bN 65537] ++ [bN (2147483648 / 16777216), bN (2147483648 / 65536), bN (2147483648 / 256), bN 2147483648]) = { data := #[0, 1, 128, 0, 0, 0] } by decide +kernel] at x8
  go_wp2_with fail
  go_ret
  have s1 := hb1.size
  have s2 := hb2.size
  have s3 := hg3.size
  have s4 := hb4.size
  have s5 := hg5.size
  have s6 := hg6.size
  have s7 := hb7.size
  simp at s2 s4 hg hg2
  have q2 : Below w.heap.size w w2 := (hb1.alloc s1 _).trans (hb2.mono (by simp; omega))
  have q3 : Below w.heap.size w w3 := below_grown q2 hg3 (by omega) (by omega)
  have q4 : Below w.heap.size w w4 := (q3.alloc (by omega) _).trans (hb4.mono (by simp; omega))
  have q6 : Below w.heap.size w w6 := below_grown (below_grown q4 hg5 (by omega) (by omega)) hg6 (by omega) (by omega)
  exact ⟨rfl, (q6.trans (hb7.mono (by omega))).trans (hb8.mono (by omega))⟩
end Go.Proofs.Ytmdanljnalfkfaa
