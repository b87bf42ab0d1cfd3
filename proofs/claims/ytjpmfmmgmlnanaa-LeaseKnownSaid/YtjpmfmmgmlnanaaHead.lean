/-
  Three closed facts on the program's head, reckoned once for all statements.
-/
import Derived.Test.YtjpmfmmgmlnanaaChecked
import Derived.JoinedOf
import Derived.KernelRfl
namespace Go.Proofs.Ytjpmfmmgmlnanaa
theorem head_enter : Try.checked.prog.mayEnter = true := by kernel_rfl
theorem head_lifted : (false == Try.checked.prog.liftsFinal) = true := by kernel_rfl
theorem head_make : (Try.checked.prog.make == some Make.cut) = true := by kernel_rfl
end Go.Proofs.Ytjpmfmmgmlnanaa
