/-
  An address as data; the reference's Of4.
-/
import Derived.Test.YtnmdiageigbphaaDoorOctet6
import Derived.Test.YtnmdiageigbphaaDoorBig
import Derived.Handy
namespace Go.Proofs.YtnmdiageigbphaaDoor
open Go.RowKit

/-- An address. -/
structure Ad4 where
  a : UInt8
  b : UInt8
  c : UInt8
  d : UInt8
def Ad4.bytes (m : Ad4) : List UInt8 := [m.a, m.b, m.c, m.d]
abbrev adC (m : Ad4) : Array Value := #[.int .u8 (m.a.toNat : Int), .int .u8 (m.b.toNat : Int), .int .u8 (m.c.toNat : Int), .int .u8 (m.d.toNat : Int)]
abbrev adV (m : Ad4) : Value := .agg (adC m)
def adOf (l : List UInt8) : Ad4 := ⟨l.getD 0 0, l.getD 1 0, l.getD 2 0, l.getD 3 0⟩
theorem splice_ad (l : List UInt8) (hl : l.length = 0 ∨ l.length = 4) :
    splice8 #[.int .u8 0, .int .u8 0, .int .u8 0, .int .u8 0] 0 l =
      #[.int .u8 ((adOf l).a.toNat : Int), .int .u8 ((adOf l).b.toNat : Int), .int .u8 ((adOf l).c.toNat : Int), .int .u8 ((adOf l).d.toNat : Int)] := by
  match l, hl with
  | [], _ => simp [splice8, bv, adOf]
  | [a, b, c, d], _ => simp [splice8, bv, adOf]
def of4 (n : Int) : Ad4 := ⟨bN (n / 16777216), bN (n / 65536), bN (n / 256), bN n⟩
theorem of4_be (x y z u : UInt8) : of4 (beN [x, y, z, u]) = ⟨x, y, z, u⟩ := by
  have hx := x.toNat_lt
  have hy := y.toNat_lt
  have hz := z.toNat_lt
  have hu := u.toNat_lt
  have e : (beN [x, y, z, u] : Int) = (((x.toNat : Int) * 256 + y.toNat) * 256 + z.toNat) * 256 + u.toNat := by simp [beN]
  have k : ∀ (v : Int) (b : UInt8), v % 256 = (b.toNat : Int) → bN v = b := fun v b h => UInt8.toNat_inj.1 (by have := bN_val v; omega)
  unfold of4
  rw [e, k _ x (by omega), k _ y (by omega), k _ z (by omega), k _ u (by omega)]

end Go.Proofs.YtnmdiageigbphaaDoor
