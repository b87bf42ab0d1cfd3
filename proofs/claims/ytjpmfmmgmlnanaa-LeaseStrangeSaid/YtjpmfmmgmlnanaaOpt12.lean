/-
  What each statement of chapter 12 asks first: awake.
-/
import Derived.Test.YtjpmfmmgmlnanaaOpt11
namespace Go.Proofs.Ytjpmfmmgmlnanaa
open Go.RowKit

/-- The bytes of a list's first option of a code, by the options' data alone. -/
def fdO (l : List Ob) (code : Int) : Option (List UInt8) := (l.find? (fun o => o.1 == code)).map (·.2)
theorem fd_obs : ∀ (l : List Op1) (code : Int), (opFind l code).map Op1.body = fdO (obs l) code
  | [], _ => rfl
  | o :: r, code => by
    have ih := fd_obs r code
    unfold opFind fdO at ih ⊢
    show ((o :: r).find? _).map _ = ((o.ob :: obs r).find? _).map _
    rw [List.find?_cons, List.find?_cons]
    show Option.map Op1.body (match o.code == code with | true => some o | false => _) = Option.map _ (match o.code == code with | true => some o.ob | false => _)
    cases o.code == code
    · exact ih
    · rfl
theorem fdB_obs (l : List Op1) (code : Int) : fdB l code = (fdO (obs l) code).getD [] := by
  rw [← fd_obs]
  unfold fdB
  cases opFind l code <;> rfl
theorem fdK_obs (l : List Op1) (code : Int) : fdK l code = (fdO (obs l) code).isSome := by
  rw [← fd_obs]
  unfold fdK
  cases opFind l code <;> rfl

theorem OB.len {w : World} {H n c : Nat} {A : Option Addr} {l : List UInt8} (h : OB w H A n c l) : n = l.length := h.1
theorem bodies_le {l : List Op1} {m : Nat} (h : ∀ o ∈ obs l, o.2.length ≤ m) : ∀ o ∈ l, o.body.length ≤ m := fun o ho => h o.ob (List.mem_map.2 ⟨o, ho, rfl⟩)

end Go.Proofs.Ytjpmfmmgmlnanaa
