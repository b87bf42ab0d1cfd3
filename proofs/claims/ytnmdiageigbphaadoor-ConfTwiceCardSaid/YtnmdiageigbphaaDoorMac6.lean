/-
  Hardware addresses as data.
-/
import Derived.Test.YtnmdiageigbphaaDoorOctet6
import Derived.Stop.BytesEq
namespace Go.Proofs.YtnmdiageigbphaaDoor
open Go.RowKit

structure Mac6 where
  a : UInt8
  b : UInt8
  c : UInt8
  d : UInt8
  e : UInt8
  f : UInt8
def Mac6.bytes (m : Mac6) : List UInt8 := [m.a, m.b, m.c, m.d, m.e, m.f]
abbrev macV (m : Mac6) : Value := .agg #[.int .u8 (m.a.toNat : Int), .int .u8 (m.b.toNat : Int), .int .u8 (m.c.toNat : Int), .int .u8 (m.d.toNat : Int), .int .u8 (m.e.toNat : Int), .int .u8 (m.f.toNat : Int)]
def macOf (l : List UInt8) : Mac6 := ⟨l.getD 0 0, l.getD 1 0, l.getD 2 0, l.getD 3 0, l.getD 4 0, l.getD 5 0⟩
theorem splice_mac (l : List UInt8) (hl : l.length = 0 ∨ l.length = 6) :
    splice8 #[.int .u8 0, .int .u8 0, .int .u8 0, .int .u8 0, .int .u8 0, .int .u8 0] 0 l =
      #[.int .u8 ((macOf l).a.toNat : Int), .int .u8 ((macOf l).b.toNat : Int), .int .u8 ((macOf l).c.toNat : Int), .int .u8 ((macOf l).d.toNat : Int), .int .u8 ((macOf l).e.toNat : Int), .int .u8 ((macOf l).f.toNat : Int)] := by
  match l, hl with
  | [], _ => simp [splice8, bv, macOf]
  | [a, b, c, d, e, f], _ => simp [splice8, bv, macOf]
def meq (m o : Mac6) : Bool := m.bytes == o.bytes
theorem meq_iff (m o : Mac6) : meq m o = true ↔ m = o := by
  cases m; cases o; simp [meq, Mac6.bytes]
theorem run_eql_mac (w : World) (m o : Mac6) : (binOp .eql 30 (macV m) (macV o)).run Tryd.prog w = .ok (.bool (meq m o)) w :=
  run_eql_bytes (P := Tryd.prog) w 30 5 6 Tryd.underlying30 Tryd.underlying5 (fun w => by kernel_rfl) m.bytes o.bytes rfl rfl
end Go.Proofs.YtnmdiageigbphaaDoor
