/-
  Three closed facts on the program's head, reckoned once for all statements.
-/
import Derived.Test.YtnmdiageigbphaaDoorChecked
import Derived.JoinedOf
import Derived.KernelRfl
namespace Go.Proofs.YtnmdiageigbphaaDoor
theorem head_enter : Tryd.checked.prog.mayEnter = true := by kernel_rfl
theorem head_lifted : (false == Tryd.checked.prog.liftsFinal) = true := by kernel_rfl
theorem head_make : (Tryd.checked.prog.make == some Make.cut) = true := by kernel_rfl
end Go.Proofs.YtnmdiageigbphaaDoor
