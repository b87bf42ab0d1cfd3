/-
  Contracts of package ether: Broad, Group, Mine; the references' likewise.
-/
import Derived.Test.YtjmeehmbccilkaaEther1
import Derived.Stop.BytesEq
namespace Go.Proofs.Ytjmeehmbccilkaa
open Go.RowKit

def broad6 : Mac6 := ⟨255, 255, 255, 255, 255, 255⟩
def grp (m : Mac6) : Bool := m.a.toNat % 2 == 1

def ValPost (w : World) (v : Value) (e : Ending) (w' : World) : Prop := e = .returned v ∧ Below w.heap.size w w'

set_option maxHeartbeats 400000 in
theorem broad_any (w : World) : Calls Try.prog 23 #[] w (ValPost w (macV broad6)) := by
  go_enter Try.func23, Try.ntmps23
  go_wp2
  refine bodyPost_ret (v := macV broad6) (by simp [results, Try.results23, go_sem, broad6]) rfl ?_
  exact ⟨rfl, by go_grown⟩

theorem and1 (u : UInt8) : bits BinOp.and IntKind.u8 (u.toNat : Int) 1 = (u.toNat : Int) % 2 := by
  have := u8_and_nat u.toNat 1 u.toNat_lt (by omega)
  rw [show ((1 : Nat) : Int) = 1 by rfl] at this
  rw [this, nat_mask1]
  omega

set_option maxHeartbeats 400000 in
theorem group_any (w : World) (m : Mac6) : Calls Try.prog 15 #[macV m] w (ValPost w (.bool (grp m))) := by
  have h1 := and1 m.a
  go_enter Try.func15, Try.ntmps15
  go_wp2
  go_ret
  have e1 : ((m.a.toNat : Int) % 2 == 1) = grp m := by
    unfold grp; rw [Bool.eq_iff_iff]; simp only [beq_iff_eq]; omega
  exact ⟨by rw [← e1]; rfl, by go_grown⟩

def meq (m o : Mac6) : Bool := m.bytes == o.bytes
theorem meq_iff (m o : Mac6) : meq m o = true ↔ m = o := by
  cases m; cases o; simp [meq, Mac6.bytes]
theorem run_eql_mac (w : World) (m o : Mac6) : (binOp .eql 24 (macV m) (macV o)).run Try.prog w = .ok (.bool (meq m o)) w :=
  run_eql_bytes (P := Try.prog) w 24 5 6 Try.underlying24 Try.underlying5 (fun w => by kernel_rfl) m.bytes o.bytes rfl rfl

set_option maxRecDepth 100000 in
set_option maxHeartbeats 400000 in
theorem mine_any (w : World) (m o : Mac6) : Calls Try.prog 16 #[macV m, macV o] w (ValPost w (.bool (meq m o || grp m))) := by
  have he := fun w => run_eql_mac w m o
  cases hm : meq m o
  · rw [hm] at he
    go_enter Try.func16, Try.ntmps16
    go_wp2_with fail
    refine (group_any _ m).mono ?_
    rintro e w1 ⟨rfl, hb⟩
    go_wp2_with fail
    go_ret
    exact ⟨rfl, ((Below.refl _ w).alloc (Nat.le_refl _) _ |>.alloc (by simp) _).trans (hb.mono (by simp; omega))⟩
  · rw [hm] at he
    go_enter Try.func16, Try.ntmps16
    go_wp2_with fail
    go_ret
    exact ⟨rfl, by go_grown⟩
end Go.Proofs.Ytjmeehmbccilkaa
