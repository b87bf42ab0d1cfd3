/-
  Contracts of package octet: number, U8, U16, U32, Left, Short.
-/
import Derived.Test.YtnmdiageigbphaaDoorOctet2
namespace Go.Proofs.YtnmdiageigbphaaDoor
open Go.RowKit

/-- What is read, what is left, whether it was short. -/
def rdTake (l : List UInt8) (k : Int) : List UInt8 := if 0 ≤ k ∧ k ≤ l.length then l.take k.toNat else []
def rdDrop (l : List UInt8) (k : Int) : List UInt8 := if 0 ≤ k ∧ k ≤ l.length then l.drop k.toNat else []
def rdSh (l : List UInt8) (k : Int) (sh : Bool) : Bool := if 0 ≤ k ∧ k ≤ l.length then sh else true
/-- Bytes as a number, the first byte the greatest. -/
def beN (l : List UInt8) : Nat := l.foldl (fun v b => v * 256 + b.toNat) 0

theorem beN_snoc (l : List UInt8) (b : UInt8) : beN (l ++ [b]) = beN l * 256 + b.toNat := by simp [beN]
theorem foldl_be_lt (l : List UInt8) : ∀ v, l.foldl (fun v b => v * 256 + b.toNat) v < (v + 1) * 256 ^ l.length := by
  induction l with
  | nil => intro v; simp
  | cons b r ih =>
    intro v
    have := ih (v * 256 + b.toNat)
    have hb := b.toNat_lt
    simp only [List.foldl_cons, List.length_cons, Nat.pow_succ]
    have h2 : (v * 256 + b.toNat + 1) * 256 ^ r.length ≤ ((v + 1) * 256) * 256 ^ r.length := Nat.mul_le_mul_right _ (by omega)
    have h3 : (v + 1) * 256 * 256 ^ r.length = (v + 1) * (256 ^ r.length * 256) := by rw [Nat.mul_assoc, Nat.mul_comm 256]
    omega
theorem beN_lt (l : List UInt8) : beN l < 256 ^ l.length := by
  have := foldl_be_lt l 0
  simpa [beN] using this
theorem rdTake_length (l : List UInt8) (k : Int) (_h : 0 ≤ k) : (rdTake l k).length ≤ k.toNat := by
  unfold rdTake; split
  · simp; omega
  · simp
theorem take_succ_get {α : Type} (l : List α) (k : Nat) (h : k < l.length) : l.take (k + 1) = l.take k ++ [l[k]] := by
  rw [List.take_succ_eq_append_getElem h]

theorem or_step (v b : Nat) (hv : v < 16777216) (hb : b < 256) : bits BinOp.or IntKind.u32 ((v : Int) * 256 % 4294967296) ((b : Int) % 4294967296) = ((v * 256 + b : Nat) : Int) := by
  have e1 : (v : Int) * 256 % 4294967296 = ((v * 256 : Nat) : Int) := by omega
  have e2 : (b : Int) % 4294967296 = (b : Int) := by omega
  rw [e1, e2, u32_or_nat _ _ (by omega) (by omega), nat_join 8 (v * 256) b (by omega) (by omega)]

theorem rdTake_lt (l : List UInt8) (k : Int) (h : 0 ≤ k) : beN (rdTake l k) < 256 ^ k.toNat :=
  Nat.lt_of_lt_of_le (beN_lt _) (Nat.pow_le_pow_right (by omega) (rdTake_length l k h))

end Go.Proofs.YtnmdiageigbphaaDoor
