/-
  The walk of the statement EtherSizes.
-/
import Derived.Test.YtjmeehmbccilkaaEtherA
namespace Go.Proofs.Ytjmeehmbccilkaa
open Go.RowKit

/-- make([]byte, k). -/
theorem run_make8 (k : Nat) (hk : k ≤ 1000000) (w : World) : (Instr.makeSlice 25 (.int .i64 (k : Int)) (.int .i64 (k : Int))).run Try.prog w =
    .ok (.slice (some ⟨w.heap.size, 0, none⟩) k k) (w.alloc (.cells (bv (List.replicate k 0)).toArray 5)) := by
  obtain ⟨i0, hi, hz0, hz1, hz2⟩ := info_parts infoU8
  have hr := run_make (P := Try.prog) w 25 5 i0 (.int .u8 0) Try.underlying25 hi hz0 .i64 .i64 (k : Int) (k : Int) (by omega) (by omega) (by rw [hz2]; omega) (by omega)
  simp only [Int.toNat_natCast] at hr
  rw [hr, hz1]
  have e : madeCells (Value.int .u8 0).cells (k * 1) = (bv (List.replicate k 0)).toArray := by
    have h1 := toList_madeCells_one (.int .u8 0) k
    rw [Nat.mul_one]
    have h2 : (madeCells (Value.int .u8 0).cells k).toList = bv (List.replicate k 0) := by
      rw [show (Value.int .u8 0).cells = #[Value.int .u8 0] by rfl, h1]
      simp [bv]
    rw [← h2]
  rw [e]
theorem bs_zeros (w : World) (k : Nat) (hk : k ≤ 1000000) : BS (w.alloc (.cells (bv (List.replicate k 0)).toArray 5)) (w.alloc (.cells (bv (List.replicate k 0)).toArray 5)).heap.size (some ⟨w.heap.size, 0, none⟩) k k (List.replicate k 0) := by
  have := BS.block (List.replicate k 0) (heap_alloc_new w (.cells (bv (List.replicate k 0)).toArray 5)) rfl (by simp [maxLen]; omega)
  simpa using this

set_option maxRecDepth 100000 in
set_option maxHeartbeats 1000000 in
theorem sizes_out (w : World) (n : Int) (h : n < 0 ∨ 3000 < n) : Calls Try.prog 6 #[.int .i64 n] w (TruePost w) := by
  rcases h with h | h
  · go_enter Try.func6, Try.ntmps6
    go_wp2_with fail
    refine (awake4_any _).mono ?_
    rintro e w1 ⟨rfl, hb1⟩
    go_wp2_with fail
    go_ret
    exact ⟨rfl, hb1⟩
  · go_enter Try.func6, Try.ntmps6
    go_wp2_with fail
    refine (awake4_any _).mono ?_
    rintro e w1 ⟨rfl, hb1⟩
    go_wp2_with fail
    go_ret
    exact ⟨rfl, hb1⟩

set_option maxRecDepth 100000 in
set_option maxHeartbeats 1000000 in
theorem sizes_in (w : World) (k : Nat) (h : k ≤ 3000) (f : Fr) (x : Int) (hf : getFr (List.replicate k 0) = (f, x))
    (hx : (1514 < k ∧ x = 2 ∧ f.body.length = 0) ∨ (k < 14 ∧ x = 3 ∧ f.body.length = 0) ∨ (14 ≤ k ∧ k ≤ 1514 ∧ x = 0 ∧ (f.body.length : Int) = (k : Int) - 14)) :
    Calls Try.prog 6 #[.int .i64 (k : Int)] w (TruePost w) := by
  have hmk := run_make8 k (by omega)
  have HF := Lib.hid hf
  clear hf
  have h5 : (14 ≤ k ∧ k ≤ 1514 ∧ x = 0 ∧ (f.body.length : Int) = (k : Int) - 14) → ((f.body.length : Int) == (k : Int) - 14) = true := fun h => by rw [beq_iff_eq]; exact h.2.2.2
  have hx' : (1514 < k ∧ x = 2 ∧ f.body.length = 0) ∨ (k < 14 ∧ x = 3 ∧ f.body.length = 0) ∨ (14 ≤ k ∧ k ≤ 1514 ∧ x = 0 ∧ ((f.body.length : Int) == (k : Int) - 14) = true) := by
    rcases hx with h | h | h
    · exact .inl h
    · exact .inr (.inl h)
    · exact .inr (.inr ⟨h.1, h.2.1, h.2.2.1, h5 h⟩)
  clear hx h5
  rcases hx' with ⟨h1, rfl, h3⟩ | ⟨h1, rfl, h3⟩ | ⟨h1, h2, rfl, h3⟩
  all_goals
    go_enter Try.func6, Try.ntmps6
    go_wp2_with fail
    refine (awake4_any _).mono ?_
    rintro e w1 ⟨rfl, hb1⟩
    go_wp2_with fail
    refine (get_any _ _ k k _ (bs_zeros w1 k (by omega))).mono ?_
    rw [HF.out]
    rintro e w2 ⟨A2, n2, c2, rfl, ho2, hb2⟩
    have hn2 := ho2.1
    simp only at hn2
    subst hn2
    go_wp2_with fail
    go_ret
    have z1 := hb1.size
    refine ⟨rfl, ?_⟩
    refine ((hb1.alloc z1 _).trans (hb2.mono (by simp; omega))).trans ?_
    have z2 := hb2.size
    simp at z2
    go_grown

theorem sizes_walk (w : World) (n : Int) (_ : (Lit.int .i64 n).wf = true) : Calls Try.prog 6 #[.int .i64 n] w (TruePost w) := by
  by_cases h : n < 0 ∨ 3000 < n
  · exact sizes_out w n h
  · obtain ⟨k, rfl⟩ := Int.eq_ofNat_of_zero_le (show 0 ≤ n by omega)
    refine sizes_in w k (by omega) (getFr (List.replicate k 0)).1 (getFr (List.replicate k 0)).2 rfl ?_
    unfold getFr
    rw [List.length_replicate]
    by_cases h1 : 1514 < k
    · rw [if_pos h1]; exact .inl ⟨h1, rfl, rfl⟩
    · rw [if_neg h1]
      by_cases h2 : k < 14
      · rw [if_pos h2]; exact .inr (.inl ⟨h2, rfl, rfl⟩)
      · rw [if_neg h2]
        refine .inr (.inr ⟨by omega, by omega, rfl, ?_⟩)
        simp only [List.length_drop, List.length_replicate]
        omega
end Go.Proofs.Ytjmeehmbccilkaa
