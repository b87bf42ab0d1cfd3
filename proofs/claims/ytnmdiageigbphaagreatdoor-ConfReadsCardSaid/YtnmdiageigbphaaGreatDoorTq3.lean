/-
  What is written is read back, plainly (addresses, nets, devices' addresses).
-/
import Derived.Test.YtnmdiageigbphaaGreatDoorKp2
import Derived.Test.YtnmdiageigbphaaGreatDoorKq12
import Derived.Test.YtnmdiageigbphaaGreatDoorTq2
namespace Go.Proofs.YtnmdiageigbphaaGreatDoor
section
open Go.RowKit

theorem numA_of4 (v : Nat) (h : v < 4294967296) : numA (of4 (v : Int)) = v := by
  have h1 := bN_val ((v : Int) / 16777216)
  have h2 := bN_val ((v : Int) / 65536)
  have h3 := bN_val ((v : Int) / 256)
  have h4 := bN_val (v : Int)
  unfold numA of4
  simp only
  omega
theorem numA_inj {a b : Ad4} (h : numA a = numA b) : a = b := by
  obtain ⟨a0, a1, a2, a3⟩ := a
  obtain ⟨b0, b1, b2, b3⟩ := b
  have := a0.toNat_lt; have := a1.toNat_lt; have := a2.toNat_lt; have := a3.toNat_lt
  have := b0.toNat_lt; have := b1.toNat_lt; have := b2.toNat_lt; have := b3.toNat_lt
  simp only [numA] at h
  rw [UInt8.toNat_inj.1 (show a0.toNat = b0.toNat by omega), UInt8.toNat_inj.1 (show a1.toNat = b1.toNat by omega), UInt8.toNat_inj.1 (show a2.toNat = b2.toNat by omega), UInt8.toNat_inj.1 (show a3.toNat = b3.toNat by omega)]
theorem of4_numA (a : Ad4) : of4 (numA a : Int) = a := numA_inj (numA_of4 _ (numA_lt a))

theorem firstN_eq (x k : Nat) (hx : x < 4294967296) (hk : k ≤ 32) : firstN x (2 ^ k - 1) = x / 2 ^ k * 2 ^ k := by
  have hm : 2 ^ k - 1 < 2 ^ 32 := by
    have h1 : (2 : Nat) ^ k ≤ 2 ^ 32 := Nat.pow_le_pow_right (by decide) hk
    have h2 : 1 ≤ (2 : Nat) ^ k := Nat.one_le_two_pow
    omega
  rw [firstN, show 4294967295 - (2 ^ k - 1) = 2 ^ 32 - ((2 ^ k - 1) + 1) by omega]
  rw [show x / 2 ^ k * 2 ^ k = (x >>> k) <<< k by rw [Nat.shiftRight_eq_div_pow, Nat.shiftLeft_eq]]
  apply Nat.eq_of_testBit_eq
  intro i
  rw [Nat.testBit_and, Nat.testBit_two_pow_sub_succ hm, Nat.testBit_two_pow_sub_one, Nat.testBit_shiftLeft, Nat.testBit_shiftRight]
  rcases Nat.lt_or_ge i k with h | h
  · simp [h, show ¬ k ≤ i by omega]
  · rw [show k + (i - k) = i by omega]
    rcases Nat.lt_or_ge i 32 with h3 | h3
    · simp [h, h3, show ¬ i < k by omega]
    · have : x.testBit i = false := Nat.testBit_lt_two_pow (Nat.lt_of_lt_of_le (show x < 2 ^ 32 from hx) (Nat.pow_le_pow_right (by decide) h3))
      simp [this]
theorem lastN_eq (x k : Nat) : lastN x (2 ^ k - 1) = x / 2 ^ k * 2 ^ k + (2 ^ k - 1) := by
  have h1 : 1 ≤ (2 : Nat) ^ k := Nat.one_le_two_pow
  rw [← nat_join k (x / 2 ^ k * 2 ^ k) (2 ^ k - 1) (Nat.mul_mod_left _ _) (by omega)]
  rw [lastN, show x / 2 ^ k * 2 ^ k = (x >>> k) <<< k by rw [Nat.shiftRight_eq_div_pow, Nat.shiftLeft_eq]]
  apply Nat.eq_of_testBit_eq
  intro i
  rw [Nat.testBit_or, Nat.testBit_or, Nat.testBit_two_pow_sub_one, Nat.testBit_shiftLeft, Nat.testBit_shiftRight]
  rcases Nat.lt_or_ge i k with h | h
  · simp [h]
  · rw [show k + (i - k) = i by omega]
    simp [h]
theorem xor_zero_iff (a b : Nat) : a ^^^ b = 0 ↔ a = b := by
  constructor
  · intro h
    have h2 : (a ^^^ b) ^^^ b = a := by rw [Nat.xor_assoc, Nat.xor_self, Nat.xor_zero]
    rw [h, Nat.zero_xor] at h2
    exact h2.symm
  · rintro rfl
    exact Nat.xor_self _
theorem hasN_eq (x y k : Nat) (hx : x < 4294967296) (hy : y < 4294967296) (hk : k ≤ 32) : hasN x y (2 ^ k - 1) = decide (x / 2 ^ k = y / 2 ^ k) := by
  have hz : x ^^^ y < 4294967296 := Nat.xor_lt_two_pow (n := 32) hx hy
  have h1 : 1 ≤ (2 : Nat) ^ k := Nat.one_le_two_pow
  have e : (x ^^^ y) &&& (4294967295 - (2 ^ k - 1)) = (x ^^^ y) / 2 ^ k * 2 ^ k := firstN_eq (x ^^^ y) k hz hk
  rw [hasN, e, Bool.eq_iff_iff, beq_iff_eq, decide_eq_true_iff, Nat.mul_eq_zero, or_iff_left (by omega), ← Nat.shiftRight_eq_div_pow, Nat.shiftRight_xor_distrib, Nat.shiftRight_eq_div_pow, Nat.shiftRight_eq_div_pow, xor_zero_iff]
theorem beh_pow (b : Int) : ∃ k, k ≤ 32 ∧ behN b = 2 ^ k - 1 := ⟨32 - clampB b, by omega, rfl⟩
/-- A net has what lies from its first to its last. -/
theorem has_within (x y k : Nat) (hx : x < 4294967296) (hy : y < 4294967296) (hk : k ≤ 32) : hasN x y (2 ^ k - 1) = (decide (firstN y (2 ^ k - 1) ≤ x) && decide (x ≤ lastN y (2 ^ k - 1))) := by
  rw [hasN_eq x y k hx hy hk, firstN_eq y k hy hk, lastN_eq y k]
  have h1 : 1 ≤ (2 : Nat) ^ k := Nat.one_le_two_pow
  generalize (2 : Nat) ^ k = K at *
  rw [Bool.eq_iff_iff, Bool.and_eq_true, decide_eq_true_iff, decide_eq_true_iff, decide_eq_true_iff]
  have a1 := Nat.div_add_mod x K
  have a2 := Nat.div_add_mod y K
  have a3 := Nat.mod_lt x (show 0 < K by omega)
  have a4 := Nat.mod_lt y (show 0 < K by omega)
  rw [Nat.mul_comm] at a1 a2
  constructor
  · intro h
    rw [h] at a1
    omega
  · rintro ⟨h2, h3⟩
    apply Nat.le_antisymm
    · apply Nat.le_of_lt_succ
      apply Nat.lt_of_mul_lt_mul_right (a := K)
      rw [Nat.succ_mul]
      omega
    · apply Nat.le_of_lt_succ
      apply Nat.lt_of_mul_lt_mul_right (a := K)
      rw [Nat.succ_mul]
      omega
theorem last_lt (x m : Nat) (hx : x < 4294967296) (hm : m < 4294967296) : lastN x m < 4294967296 := Nat.or_lt_two_pow (n := 32) hx hm
theorem first_lt (x m : Nat) (hx : x < 4294967296) : firstN x m < 4294967296 := Nat.lt_of_le_of_lt Nat.and_le_left hx
theorem first_le (x k : Nat) (hx : x < 4294967296) (hk : k ≤ 32) : firstN x (2 ^ k - 1) ≤ x := Nat.and_le_left
theorem le_last (x k : Nat) : x ≤ lastN x (2 ^ k - 1) := Nat.left_le_or
end
section
open Go.RowKit

theorem dec_all : ((List.range 256).all fun n => numOk (decB n) 255 && (numV (decB n) == n) && (decB n).all (fun b => b != 46 && b != 47)) = true := by kernel_rfl
theorem dec_32 : ((List.range 33).all fun n => numOk (decB n) 32) = true := by kernel_rfl
theorem hex_all : ((List.range 256).all fun n => pairOk (hex2 n) && (pairV (hex2 n) == n) && (hex2 n).all (fun b => b != 58)) = true := by kernel_rfl
theorem dec_of (n : Nat) (h : n < 256) : numOk (decB n) 255 = true ∧ numV (decB n) = n ∧ (∀ b ∈ decB n, b ≠ 46) ∧ (∀ b ∈ decB n, b ≠ 47) := by
  have h1 := List.all_eq_true.1 dec_all n (List.mem_range.2 h)
  rw [Bool.and_eq_true, Bool.and_eq_true, beq_iff_eq, List.all_eq_true] at h1
  obtain ⟨⟨a, b⟩, c⟩ := h1
  exact ⟨a, b, fun x hx => by have := c x hx; simp at this; exact this.1, fun x hx => by have := c x hx; simp at this; exact this.2⟩
theorem hex_of (n : Nat) (h : n < 256) : pairOk (hex2 n) = true ∧ pairV (hex2 n) = n ∧ ∀ b ∈ hex2 n, b ≠ 58 := by
  have h1 := List.all_eq_true.1 hex_all n (List.mem_range.2 h)
  rw [Bool.and_eq_true, Bool.and_eq_true, beq_iff_eq, List.all_eq_true] at h1
  obtain ⟨⟨a, b⟩, c⟩ := h1
  exact ⟨a, b, fun x hx => by have := c x hx; simpa using this⟩
theorem bN_nat (x : UInt8) : bN (x.toNat : Int) = x := UInt8.toNat_inj.1 (by have := bN_val (x.toNat : Int); have := x.toNat_lt; omega)
theorem cut_textA (a : Ad4) : cutB 46 (textA a) = [decB a.a.toNat, decB a.b.toNat, decB a.c.toNat, decB a.d.toNat] := by
  rw [textA, cutB_cons 46 _ _ (dec_of _ a.a.toNat_lt).2.2.1, cutB_cons 46 _ _ (dec_of _ a.b.toNat_lt).2.2.1, cutB_cons 46 _ _ (dec_of _ a.c.toNat_lt).2.2.1, cutB_none 46 _ (dec_of _ a.d.toNat_lt).2.2.1]
theorem parse_text (a : Ad4) : parseV (textA a) = (a, 0) := by
  have h0 := dec_of _ a.a.toNat_lt; have h1 := dec_of _ a.b.toNat_lt; have h2 := dec_of _ a.c.toNat_lt; have h3 := dec_of _ a.d.toNat_lt
  have hc := cut_textA a
  rw [parse_yes ⟨by rw [hc]; rfl, by
    rw [hc, okN_iff]
    intro i hi
    rcases (show i = 0 ∨ i = 1 ∨ i = 2 ∨ i = 3 by omega) with rfl | rfl | rfl | rfl
    · exact h0.1
    · exact h1.1
    · exact h2.1
    · exact h3.1⟩, hc]
  show (Ad4.mk (bN (numV (decB a.a.toNat))) (bN (numV (decB a.b.toNat))) (bN (numV (decB a.c.toNat))) (bN (numV (decB a.d.toNat))), (0 : Int)) = (a, 0)
  rw [h0.2.1, h1.2.1, h2.2.1, h3.2.1, bN_nat, bN_nat, bN_nat, bN_nat]
theorem textA_no (a : Ad4) : ∀ b ∈ textA a, b ≠ 47 := by
  have h0 := (dec_of _ a.a.toNat_lt).2.2.2; have h1 := (dec_of _ a.b.toNat_lt).2.2.2; have h2 := (dec_of _ a.c.toNat_lt).2.2.2; have h3 := (dec_of _ a.d.toNat_lt).2.2.2
  intro b hb
  simp only [textA, List.mem_append, List.mem_cons] at hb
  rcases hb with h | rfl | h | rfl | h | rfl | h
  · exact h0 b h
  · decide
  · exact h1 b h
  · decide
  · exact h2 b h
  · decide
  · exact h3 b h
theorem firstA_idem (a : Ad4) (b : Int) : firstA (firstA a b) b = firstA a b := by
  unfold firstA
  rw [numA_of4 _ (first_lt _ _ (numA_lt a))]
  congr 2
  unfold firstN
  rw [Nat.and_assoc, Nat.and_self]
theorem cut_textM (m : Mac6) : cutB 58 (textM m) = [hex2 m.a.toNat, hex2 m.b.toNat, hex2 m.c.toNat, hex2 m.d.toNat, hex2 m.e.toNat, hex2 m.f.toNat] := by
  rw [textM, cutB_cons 58 _ _ (hex_of _ m.a.toNat_lt).2.2, cutB_cons 58 _ _ (hex_of _ m.b.toNat_lt).2.2, cutB_cons 58 _ _ (hex_of _ m.c.toNat_lt).2.2, cutB_cons 58 _ _ (hex_of _ m.d.toNat_lt).2.2, cutB_cons 58 _ _ (hex_of _ m.e.toNat_lt).2.2, cutB_none 58 _ (hex_of _ m.f.toNat_lt).2.2]
theorem parse_textM (m : Mac6) : parseMV (textM m) = (m, 0) := by
  have h0 := hex_of _ m.a.toNat_lt; have h1 := hex_of _ m.b.toNat_lt; have h2 := hex_of _ m.c.toNat_lt; have h3 := hex_of _ m.d.toNat_lt; have h4 := hex_of _ m.e.toNat_lt; have h5 := hex_of _ m.f.toNat_lt
  have hc := cut_textM m
  rw [parseM_yes ⟨by rw [hc]; rfl, by
    rw [hc, okM_iff]
    intro i hi
    rcases (show i = 0 ∨ i = 1 ∨ i = 2 ∨ i = 3 ∨ i = 4 ∨ i = 5 by omega) with rfl | rfl | rfl | rfl | rfl | rfl
    · exact h0.1
    · exact h1.1
    · exact h2.1
    · exact h3.1
    · exact h4.1
    · exact h5.1⟩, hc]
  show (Mac6.mk (bN (pairV (hex2 m.a.toNat))) (bN (pairV (hex2 m.b.toNat))) (bN (pairV (hex2 m.c.toNat))) (bN (pairV (hex2 m.d.toNat))) (bN (pairV (hex2 m.e.toNat))) (bN (pairV (hex2 m.f.toNat))), (0 : Int)) = (m, 0)
  rw [h0.2.1, h1.2.1, h2.2.1, h3.2.1, h4.2.1, h5.2.1, bN_nat, bN_nat, bN_nat, bN_nat, bN_nat, bN_nat]
theorem textM_le (m : Mac6) : (textM m).length = 17 := by simp [textM, hex2]

theorem eq_ad_in (w : World) (d : Nat) (m : Ad4) : (Op.equalIn (d + 2) 24 (adV m) (adV m)).run Tryz.prog w = .ok true w := by
  have := run_equalIn_bytes (P := Tryz.prog) w d 24 5 4 Tryz.underlying24 Tryz.underlying5 (fun w => by kernel_rfl) m.bytes m.bytes rfl rfl
  rw [beq_self_eq_true] at this
  exact this
end
end Go.Proofs.YtnmdiageigbphaaGreatDoor
