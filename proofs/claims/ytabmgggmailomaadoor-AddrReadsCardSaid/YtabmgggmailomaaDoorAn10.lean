/-
  Nets plainly: the first, the last address, what a net has: by division.
-/
import Derived.Test.YtabmgggmailomaaDoorAn8
namespace Go.Proofs.YtabmgggmailomaaDoor
open Go.RowKit

theorem numA_of4 (v : Nat) (h : v < 4294967296) : numA (of4 (v : Int)) = v := by
  have h1 := bN_val ((v : Int) / 16777216)
  have h2 := bN_val ((v : Int) / 65536)
  have h3 := bN_val ((v : Int) / 256)
  have h4 := bN_val (v : Int)
  unfold numA of4
  simp only
  omega
theorem numA_inj {a b : Ad4} (h : numA a = numA b) : a = b := by
  obtain ⟨a0, a1, a2, a3⟩ := a
  obtain ⟨b0, b1, b2, b3⟩ := b
  have := a0.toNat_lt; have := a1.toNat_lt; have := a2.toNat_lt; have := a3.toNat_lt
  have := b0.toNat_lt; have := b1.toNat_lt; have := b2.toNat_lt; have := b3.toNat_lt
  simp only [numA] at h
  rw [UInt8.toNat_inj.1 (show a0.toNat = b0.toNat by omega), UInt8.toNat_inj.1 (show a1.toNat = b1.toNat by omega), UInt8.toNat_inj.1 (show a2.toNat = b2.toNat by omega), UInt8.toNat_inj.1 (show a3.toNat = b3.toNat by omega)]
theorem of4_numA (a : Ad4) : of4 (numA a : Int) = a := numA_inj (numA_of4 _ (numA_lt a))

theorem firstN_eq (x k : Nat) (hx : x < 4294967296) (hk : k ≤ 32) : firstN x (2 ^ k - 1) = x / 2 ^ k * 2 ^ k := by
  have hm : 2 ^ k - 1 < 2 ^ 32 := by
    have h1 : (2 : Nat) ^ k ≤ 2 ^ 32 := Nat.pow_le_pow_right (by decide) hk
    have h2 : 1 ≤ (2 : Nat) ^ k := Nat.one_le_two_pow
    omega
  rw [firstN, show 4294967295 - (2 ^ k - 1) = 2 ^ 32 - ((2 ^ k - 1) + 1) by omega]
  rw [show x / 2 ^ k * 2 ^ k = (x >>> k) <<< k by rw [Nat.shiftRight_eq_div_pow, Nat.shiftLeft_eq]]
  apply Nat.eq_of_testBit_eq
  intro i
  rw [Nat.testBit_and, Nat.testBit_two_pow_sub_succ hm, Nat.testBit_two_pow_sub_one, Nat.testBit_shiftLeft, Nat.testBit_shiftRight]
  rcases Nat.lt_or_ge i k with h | h
  · simp [h, show ¬ k ≤ i by omega]
  · rw [show k + (i - k) = i by omega]
    rcases Nat.lt_or_ge i 32 with h3 | h3
    · simp [h, h3, show ¬ i < k by omega]
    · have : x.testBit i = false := Nat.testBit_lt_two_pow (Nat.lt_of_lt_of_le (show x < 2 ^ 32 from hx) (Nat.pow_le_pow_right (by decide) h3))
      simp [this]
theorem lastN_eq (x k : Nat) : lastN x (2 ^ k - 1) = x / 2 ^ k * 2 ^ k + (2 ^ k - 1) := by
  have h1 : 1 ≤ (2 : Nat) ^ k := Nat.one_le_two_pow
  rw [← nat_join k (x / 2 ^ k * 2 ^ k) (2 ^ k - 1) (Nat.mul_mod_left _ _) (by omega)]
  rw [lastN, show x / 2 ^ k * 2 ^ k = (x >>> k) <<< k by rw [Nat.shiftRight_eq_div_pow, Nat.shiftLeft_eq]]
  apply Nat.eq_of_testBit_eq
  intro i
  rw [Nat.testBit_or, Nat.testBit_or, Nat.testBit_two_pow_sub_one, Nat.testBit_shiftLeft, Nat.testBit_shiftRight]
  rcases Nat.lt_or_ge i k with h | h
  · simp [h]
  · rw [show k + (i - k) = i by omega]
    simp [h]
theorem xor_zero_iff (a b : Nat) : a ^^^ b = 0 ↔ a = b := by
  constructor
  · intro h
    have h2 : (a ^^^ b) ^^^ b = a := by rw [Nat.xor_assoc, Nat.xor_self, Nat.xor_zero]
    rw [h, Nat.zero_xor] at h2
    exact h2.symm
  · rintro rfl
    exact Nat.xor_self _
theorem hasN_eq (x y k : Nat) (hx : x < 4294967296) (hy : y < 4294967296) (hk : k ≤ 32) : hasN x y (2 ^ k - 1) = decide (x / 2 ^ k = y / 2 ^ k) := by
  have hz : x ^^^ y < 4294967296 := Nat.xor_lt_two_pow (n := 32) hx hy
  have h1 : 1 ≤ (2 : Nat) ^ k := Nat.one_le_two_pow
  have e : (x ^^^ y) &&& (4294967295 - (2 ^ k - 1)) = (x ^^^ y) / 2 ^ k * 2 ^ k := firstN_eq (x ^^^ y) k hz hk
  rw [hasN, e, Bool.eq_iff_iff, beq_iff_eq, decide_eq_true_iff, Nat.mul_eq_zero, or_iff_left (by omega), ← Nat.shiftRight_eq_div_pow, Nat.shiftRight_xor_distrib, Nat.shiftRight_eq_div_pow, Nat.shiftRight_eq_div_pow, xor_zero_iff]
theorem beh_pow (b : Int) : ∃ k, k ≤ 32 ∧ behN b = 2 ^ k - 1 := ⟨32 - clampB b, by omega, rfl⟩
/-- A net has what lies from its first to its last. -/
theorem has_within (x y k : Nat) (hx : x < 4294967296) (hy : y < 4294967296) (hk : k ≤ 32) : hasN x y (2 ^ k - 1) = (decide (firstN y (2 ^ k - 1) ≤ x) && decide (x ≤ lastN y (2 ^ k - 1))) := by
  rw [hasN_eq x y k hx hy hk, firstN_eq y k hy hk, lastN_eq y k]
  have h1 : 1 ≤ (2 : Nat) ^ k := Nat.one_le_two_pow
  generalize (2 : Nat) ^ k = K at *
  rw [Bool.eq_iff_iff, Bool.and_eq_true, decide_eq_true_iff, decide_eq_true_iff, decide_eq_true_iff]
  have a1 := Nat.div_add_mod x K
  have a2 := Nat.div_add_mod y K
  have a3 := Nat.mod_lt x (show 0 < K by omega)
  have a4 := Nat.mod_lt y (show 0 < K by omega)
  rw [Nat.mul_comm] at a1 a2
  constructor
  · intro h
    rw [h] at a1
    omega
  · rintro ⟨h2, h3⟩
    apply Nat.le_antisymm
    · apply Nat.le_of_lt_succ
      apply Nat.lt_of_mul_lt_mul_right (a := K)
      rw [Nat.succ_mul]
      omega
    · apply Nat.le_of_lt_succ
      apply Nat.lt_of_mul_lt_mul_right (a := K)
      rw [Nat.succ_mul]
      omega
theorem last_lt (x m : Nat) (hx : x < 4294967296) (hm : m < 4294967296) : lastN x m < 4294967296 := Nat.or_lt_two_pow (n := 32) hx hm
theorem first_lt (x m : Nat) (hx : x < 4294967296) : firstN x m < 4294967296 := Nat.lt_of_le_of_lt Nat.and_le_left hx
theorem first_le (x k : Nat) (hx : x < 4294967296) (hk : k ≤ 32) : firstN x (2 ^ k - 1) ≤ x := Nat.and_le_left
theorem le_last (x k : Nat) : x ≤ lastN x (2 ^ k - 1) := Nat.left_le_or
end Go.Proofs.YtabmgggmailomaaDoor
