/-
  The writers' contracts in the words b16, b32; the references' U16, U32.
-/
import Derived.Test.YtnmdiageigbphaaDoorReads
namespace Go.Proofs.YtnmdiageigbphaaDoor
open Go.RowKit

theorem i64_or_join (a b : Nat) (i : Nat) (ha : a % 2 ^ i = 0) (hb : b < 2 ^ i) (hab : a + b < 9223372036854775808) : bits BinOp.or IntKind.i64 (a : Int) (b : Int) = (a : Int) + b := by
  have oi : ∀ x : Nat, x < 9223372036854775808 → (BitVec.ofInt 64 (x : Int)).toNat = x := fun x hx => by
    rw [BitVec.ofInt_natCast, BitVec.toNat_ofNat]; exact Nat.mod_eq_of_lt (by omega)
  show IntKind.i64.wrap ((BitVec.ofInt 64 (a : Int) ||| BitVec.ofInt 64 (b : Int)).toNat : Int) = _
  rw [BitVec.toNat_or, oi a (by omega), oi b (by omega), nat_join i a b ha hb, IntKind.wrap_i64]
  omega
theorem and16u (x : Int) (h0 : 0 ≤ x) (h1 : x < 4294967296) : bits BinOp.and IntKind.u32 x 65535 = x % 65536 := by
  obtain ⟨n, rfl⟩ := Int.eq_ofNat_of_zero_le h0
  have := u32_and_nat n 65535 (by omega) (by omega)
  rw [show ((65535 : Nat) : Int) = 65535 by rfl] at this
  rw [this, nat_mask16]
  omega
theorem beN_b16 (v : Int) : (beN (b16 v) : Int) = v % 65536 := by
  have h1 := bN_val (v / 256)
  have h2 := bN_val v
  simp only [b16, beN, List.foldl_cons, List.foldl_nil]
  omega
theorem beN_b32 (v : Int) (h0 : 0 ≤ v) (h1 : v < 4294967296) : (beN (b32 v) : Int) = v := by
  have h1 := bN_val (v / 256)
  have h2 := bN_val v
  have h3 := bN_val (v / 65536)
  have h4 := bN_val (v / 16777216)
  simp only [b32, beN, List.foldl_cons, List.foldl_nil]
  omega
theorem b32_b16 (v : Int) (_h0 : 0 ≤ v) (_h1 : v < 4294967296) : b32 v = b16 (v / 65536) ++ b16 (v % 65536) := by
  have e1 : bN (v / 65536 / 256) = bN (v / 16777216) := by have := bN_eq (v / 65536 / 256) (v / 16777216); rw [this]; omega
  have e2 : bN (v % 65536 / 256) = bN (v / 256) := by rw [bN_eq]; omega
  have e3 : bN (v % 65536) = bN v := by rw [bN_eq]; omega
  simp [b32, b16, e1, e2, e3]

end Go.Proofs.YtnmdiageigbphaaDoor
