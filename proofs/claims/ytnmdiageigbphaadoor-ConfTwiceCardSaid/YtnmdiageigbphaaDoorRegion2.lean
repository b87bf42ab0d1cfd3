/-
  A region that draws its order, where two operations may come up.
-/
import Derived.Test.YtnmdiageigbphaaDoorRegion
namespace Go.Proofs.YtnmdiageigbphaaDoor
open Go.RowKit
section
variable {P : Program} {ops : Array Oper} {Q : Exit → Act → World → Prop} {md : Region.Mode} {M : Nat → Prop}
theorem rg_two {oi ok : Oper} {fuel : Nat} {listed : Array Bool} {a : Act} {w : World} (i k : Nat) (hi' : ops.toList[i]? = some oi) (hk' : ops.toList[k]? = some ok)
    (hr : Region.ready md ops listed = [i, k]) (hwi : Region.wanted oi (yielded ops a.tmps) = true) (hwk : Region.wanted ok (yielded ops a.tmps) = true)
    (h1 : ∀ K : Act → World → Prop, Shut (∀ a' w', Ext M w w' → wpAnyH P md ops Q (fun x => Ext M w' x) fuel (listed.setIfInBounds i true) a' w' → K a' w') → Oper.wp P oi a w K Q)
    (h2 : ∀ K : Act → World → Prop, Shut (∀ a' w', Ext M w w' → wpAnyH P md ops Q (fun x => Ext M w' x) fuel (listed.setIfInBounds k true) a' w' → K a' w') → Oper.wp P ok a w K Q) :
    wpAnyH P md ops Q (fun x => Ext M w x) (fuel + 1) listed a w := by
  have hi : ops[i]? = some oi := by rw [← Array.getElem?_toList]; exact hi'
  have hk : ops[k]? = some ok := by rw [← Array.getElem?_toList]; exact hk'
  refine wpAnyH_all hr (by simp) fun j hj => ?_
  have hj' : j = i ∨ j = k := by simpa using hj
  rcases hj' with e | e
  · subst e
    have h1 := h1 (fun a' w' => Ext M w w' ∧ wpAnyH P md ops Q (fun x => Ext M w x) fuel (listed.setIfInBounds j true) a' w')
      (fun a' w' hg hW => ⟨hg, wpAnyH_mono (fun x hx => hg.trans (by exact hx)) fuel _ _ _ hW⟩)
    unfold wpOp
    simp only [hi, hwi, if_true]
    exact .inl h1
  · subst e
    have h1 := h2 (fun a' w' => Ext M w w' ∧ wpAnyH P md ops Q (fun x => Ext M w x) fuel (listed.setIfInBounds j true) a' w')
      (fun a' w' hg hW => ⟨hg, wpAnyH_mono (fun x hx => hg.trans (by exact hx)) fuel _ _ _ hW⟩)
    unfold wpOp
    simp only [hk, hwk, if_true]
    exact .inl h1
end
end Go.Proofs.YtnmdiageigbphaaDoor
