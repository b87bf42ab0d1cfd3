/-
  Three closed facts on the program's head, reckoned once for all statements.
-/
import Derived.Test.YtccbdaffjkdpgaaGreatDoorChecked
import Derived.JoinedOf
import Derived.KernelRfl
namespace Go.Proofs.YtccbdaffjkdpgaaGreatDoor
theorem head_enter : Tryz.checked.prog.mayEnter = true := by kernel_rfl
theorem head_lifted : (false == Tryz.checked.prog.liftsFinal) = true := by kernel_rfl
theorem head_make : (Tryz.checked.prog.make == some Make.cut) = true := by kernel_rfl
end Go.Proofs.YtccbdaffjkdpgaaGreatDoor
