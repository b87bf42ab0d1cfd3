/-
  Nets: first and last addresses, equality of addresses.
-/
import Derived.Test.YtnmdiageigbphaaDoorAn5
namespace Go.Proofs.YtnmdiageigbphaaDoor
open Go.RowKit

def adeq (m o : Ad4) : Bool := m.bytes == o.bytes
theorem adeq_iff (m o : Ad4) : adeq m o = true ↔ m = o := by
  cases m; cases o; simp [adeq, Ad4.bytes]
theorem adeq_self (m : Ad4) : adeq m m = true := (adeq_iff m m).2 rfl
theorem run_eql_ad (w : World) (m o : Ad4) : (binOp .eql 26 (adV m) (adV o)).run Tryd.prog w = .ok (.bool (adeq m o)) w :=
  run_eql_bytes (P := Tryd.prog) w 26 5 4 Tryd.underlying26 Tryd.underlying5 (fun w => by kernel_rfl) m.bytes o.bytes rfl rfl
theorem run_neq_of {t : TypeId} {xs ys : Array Value} {w : World} {b : Bool} (h : (binOp .eql t (.agg xs) (.agg ys)).run Tryd.prog w = .ok (.bool b) w) : (binOp .neq t (.agg xs) (.agg ys)).run Tryd.prog w = .ok (.bool (!b)) w := by
  rw [run_neq_struct]
  rw [run_eql_struct] at h
  rcases hx : (Op.equalIn 10000 t (.agg xs) (.agg ys)).run Tryd.prog w with _ | _ | _ | _ <;> rw [hx] at h <;> simp_all [Result.andThen]
theorem run_neq_ad (w : World) (m o : Ad4) : (binOp .neq 26 (adV m) (adV o)).run Tryd.prog w = .ok (.bool (!adeq m o)) w := run_neq_of (run_eql_ad w m o)

def firstA (a : Ad4) (b : Int) : Ad4 := of4 (firstN (numA a) (behN b))
def lastA (a : Ad4) (b : Int) : Ad4 := of4 (lastN (numA a) (behN b))
theorem parseV_err (s : List UInt8) : (parseV s).2 = 0 ∨ (parseV s).2 = 9 := by
  unfold parseV
  split <;> simp
end Go.Proofs.YtnmdiageigbphaaDoor
