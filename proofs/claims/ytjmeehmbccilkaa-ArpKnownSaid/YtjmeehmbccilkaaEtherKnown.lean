/-
  The walk of the statement EtherKnown.
-/
import Derived.Test.YtjmeehmbccilkaaEtherSizes
namespace Go.Proofs.Ytjmeehmbccilkaa
open Go.RowKit

theorem bs_zeros_at (w : World) (g k : Nat) (hg : w.heap.size = g) (hk : k ≤ 1000000) : BS (w.alloc (.cells (bv (List.replicate k 0)).toArray 5)) (w.alloc (.cells (bv (List.replicate k 0)).toArray 5)).heap.size (some ⟨g, 0, none⟩) k k (List.replicate k 0) := by
  subst hg; exact bs_zeros w k hk
def m4 : Mac6 := ⟨4, 0, 0, 0, 0, 0⟩
theorem getFr_short (k : Nat) (h : k < 14) : getFr (List.replicate k 0) = (Fr.zero, 3) := by
  rw [getFr, List.length_replicate, if_neg (by omega), if_pos h]
theorem getFr_long (k : Nat) (h : 1514 < k) : getFr (List.replicate k 0) = (Fr.zero, 2) := by
  rw [getFr, List.length_replicate, if_pos h]
theorem getFr_14 : ∃ f, getFr (List.replicate 14 0) = (f, 0) := by
  refine ⟨(getFr (List.replicate 14 0)).1, Prod.ext rfl ?_⟩
  rw [getFr, List.length_replicate, if_neg (by omega), if_neg (by omega)]

set_option maxRecDepth 100000 in
set_option maxHeartbeats 2000000 in
theorem known4_walk (w : World) : Calls Try.prog 3 #[] w (TruePost w) := by
  obtain ⟨f14, hf14⟩ := getFr_14
  have HF := Lib.hid hf14
  clear hf14
  obtain ⟨z13, hz13⟩ : ∃ z, (bv (List.replicate 13 0)).toArray = z := ⟨_, rfl⟩
  obtain ⟨z1515, hz1515⟩ : ∃ z, (bv (List.replicate 1515 0)).toArray = z := ⟨_, rfl⟩
  obtain ⟨z14, hz14⟩ : ∃ z, (bv (List.replicate 14 0)).toArray = z := ⟨_, rfl⟩
  obtain ⟨z1501, hz1501⟩ : ∃ z, (bv (List.replicate 1501 0)).toArray = z := ⟨_, rfl⟩
  have k13 := run_make8 13 (by omega)
  have k1515 := run_make8 1515 (by omega)
  have k14 := run_make8 14 (by omega)
  have k1501 := run_make8 1501 (by omega)
  have s13 := fun (w : World) (g : Nat) (hg : w.heap.size = g) => bs_zeros_at w g 13 hg (by omega)
  have s1515 := fun (w : World) (g : Nat) (hg : w.heap.size = g) => bs_zeros_at w g 1515 hg (by omega)
  have s14 := fun (w : World) (g : Nat) (hg : w.heap.size = g) => bs_zeros_at w g 14 hg (by omega)
  have s1501 := fun (w : World) (g : Nat) (hg : w.heap.size = g) => bs_zeros_at w g 1501 hg (by omega)
  rw [hz13] at k13 s13
  rw [hz1515] at k1515 s1515
  rw [hz14] at k14 s14
  rw [hz1501] at k1501 s1501
  clear hz13 hz1515 hz14 hz1501
  have S13 := Lib.hid s13
  have S1515 := Lib.hid s1515
  have S14 := Lib.hid s14
  have S1501 := Lib.hid s1501
  clear s13 s1515 s14 s1501
  change ∀ w, (Instr.makeSlice 25 (.int .i64 13) (.int .i64 13)).run Try.prog w = _ at k13
  change ∀ w, (Instr.makeSlice 25 (.int .i64 1515) (.int .i64 1515)).run Try.prog w = _ at k1515
  change ∀ w, (Instr.makeSlice 25 (.int .i64 14) (.int .i64 14)).run Try.prog w = _ at k14
  change ∀ w, (Instr.makeSlice 25 (.int .i64 1501) (.int .i64 1501)).run Try.prog w = _ at k1501
  go_enter Try.func3, Try.ntmps3
  go_wp2_with fail
  refine (awake4_any _).mono ?_
  rintro e w1 ⟨rfl, hb1⟩
  have y1 := hb1.size
  go_wp2_with fail
  refine (get_any _ _ 13 13 (List.replicate 13 0) (S13.out w1 _ rfl)).mono ?_
  rw [getFr_short 13 (by omega)]
  rintro e w2 ⟨A2, n2, c2, rfl, ho2, hb2⟩
  have q2 : Below w.heap.size w w2 := (hb1.alloc y1 _).trans (hb2.mono (by simp; omega))
  have y2 := q2.size
  clear hb2
  go_wp2_with fail
  refine (get_any _ _ 1515 1515 (List.replicate 1515 0) ?hs).mono ?_
  case hs => exact S1515.out _ _ (by simp)
  rw [getFr_long 1515 (by omega)]
  rintro e w3 ⟨A3, n3, c3, rfl, ho3, hb3⟩
  have q3 : Below w.heap.size w w3 := ((q2.alloc y2 _).alloc (by simp; omega) _).trans (hb3.mono (by simp; omega))
  have y3 := q3.size
  clear hb3
  go_wp2_with fail
  refine (get_any _ _ 14 14 (List.replicate 14 0) ?hs2).mono ?_
  case hs2 => exact S14.out _ _ (by simp)
  rw [HF.out]
  rintro e w4 ⟨A4, n4, c4, rfl, ho4, hb4⟩
  have q4 : Below w.heap.size w w4 := ((q3.alloc y3 _).alloc (by simp; omega) _).trans (hb4.mono (by simp; omega))
  have y4 := q4.size
  clear hb4
  go_wp2_with fail
  refine (put_any _ zero6 zero6 0 _ 1501 1501 (List.replicate 1501 0) ?hs3).mono ?_
  case hs3 => exact S1501.out _ _ (by simp)
  rw [show putFr ⟨zero6, zero6, 0, List.replicate 1501 0⟩ = ([], 2) by rw [putFr, if_pos (by simp)]]
  rintro e w5 ⟨A5, n5, c5, rfl, ho5, hb5⟩
  have q5 : Below w.heap.size w w5 := ((q4.alloc y4 _).alloc (by simp; omega) _).trans (hb5.mono (by simp; omega))
  have y5 := q5.size
  clear hb5
  go_wp2_with fail
  refine (put_any _ zero6 zero6 65536 _ 0 0 [] ?hs4).mono ?_
  case hs4 => exact BS.nil_ _ _
  rw [show putFr ⟨zero6, zero6, 65536, []⟩ = ([], 1) by decide +kernel]
  rintro e w6 ⟨A6, n6, c6, rfl, ho6, hb6⟩
  have q6 : Below w.heap.size w w6 := q5.trans (hb6.mono y5)
  have y6 := q6.size
  go_wp2_with fail
  refine (group_any _ m2).mono ?_
  rintro e w7 ⟨rfl, hb7⟩
  rw [show grp m2 = false by decide]
  have q7 : Below w.heap.size w w7 := q6.trans (hb7.mono y6)
  go_wp2_with fail
  refine (mine_any _ m2 m4).mono ?_
  rintro e w8 ⟨rfl, hb8⟩
  rw [show (meq m2 m4 || grp m2) = false by decide]
  go_wp2_with fail
  go_ret
  exact ⟨rfl, q7.trans (hb8.mono q7.size)⟩
end Go.Proofs.Ytjmeehmbccilkaa
