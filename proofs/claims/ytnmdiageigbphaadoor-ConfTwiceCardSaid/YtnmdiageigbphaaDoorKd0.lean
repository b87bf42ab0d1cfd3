/-
  Decimal digits of a number, plainly.
-/
import Derived.Test.YtnmdiageigbphaaDoorOctet5
import Derived.Lib.ItoaNum
import Derived.Lib.ItoaLen
namespace Go.Proofs.YtnmdiageigbphaaDoor
open Go.RowKit

def decB (n : Nat) : List UInt8 := Lib.itoa (n : Int)
theorem decB_le (n : Nat) (hn : n ≤ 9000000000000000000 := by omega) : (decB n).length ≤ 21 := Lib.itoa_length_le _ (by omega) (by omega)
theorem decB_eq (n : Nat) : decB n = Lib.decDigits n := by rw [decB, Lib.itoa, if_neg (by omega), Int.toNat_natCast]
theorem dec_low {n : Nat} (h : n < 10) : decB n = [UInt8.ofNat (48 + n)] := by rw [decB_eq, Lib.decDigits, dif_pos h]
theorem dec_high {n : Nat} (h : ¬ n < 10) : decB n = decB (n / 10) ++ [UInt8.ofNat (48 + n % 10)] := by rw [decB_eq, Lib.decDigits, dif_neg h, decB_eq]
theorem ofNat_dec {n : Nat} (h : n < 256) : (UInt8.ofNat n).toNat = n := by
  rw [UInt8.toNat_ofNat']
  omega
/-- Digits alone. -/
theorem dec_digs (n : Nat) : ∀ b ∈ decB n, 48 ≤ b.toNat ∧ b.toNat ≤ 57 := by
  induction n using Nat.strongRecOn with
  | _ n ih =>
    by_cases h : n < 10
    · rw [dec_low h]
      intro b hb
      rw [List.mem_singleton.1 hb, ofNat_dec (by omega)]
      omega
    · rw [dec_high h]
      intro b hb
      rcases List.mem_append.1 hb with hb | hb
      · exact ih _ (by omega) b hb
      · rw [List.mem_singleton.1 hb, ofNat_dec (by omega)]
        omega
theorem dec_ne (n : Nat) : decB n ≠ [] := by
  by_cases h : n < 10
  · rw [dec_low h]; simp
  · rw [dec_high h]; simp
theorem dec_len : ∀ (k n : Nat), n < 10 ^ (k + 1) → (decB n).length ≤ k + 1
  | 0, n, h => by rw [dec_low (by simpa using h)]; simp
  | k + 1, n, h => by
    by_cases h1 : n < 10
    · rw [dec_low h1]; simp
    · rw [dec_high h1]
      have := dec_len k (n / 10) (by rw [Nat.pow_succ] at h; omega)
      simp; omega
end Go.Proofs.YtnmdiageigbphaaDoor
