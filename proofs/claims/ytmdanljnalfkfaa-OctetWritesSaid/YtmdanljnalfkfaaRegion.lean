/-
  A region that draws its order, walked in one line: what reads or reckons is taken first, and behind each call the readings are known anew.
-/
import Derived.Test.YtmdanljnalfkfaaBase
import Derived.Deep.RegionHeld3
import Derived.Deep.RegionWith
import Derived.Deep.DeepCutAuto
namespace Go.Proofs.Ytmdanljnalfkfaa
open Go.RowKit

section
variable {P : Program} {ops : Array Oper} {Q : Exit → Act → World → Prop} {md : Region.Mode} {row : Option Nat}

theorem wpAnyH_mono {S S' : World → Prop} (hS : ∀ w, S' w → S w) : ∀ (fuel : Nat) (listed : Array Bool) (a : Act) (w : World), wpAnyH P md ops Q S' fuel listed a w → wpAnyH P md ops Q S fuel listed a w
  | 0, _, _, _, h => h
  | fuel + 1, _, _, _, h => ⟨h.1, fun i hi => wpOp_mono (fun a' w' h' => ⟨hS _ h'.1, wpAnyH_mono hS fuel _ a' w' h'.2⟩) (h.2 i hi)⟩

theorem rg_begin {id : Nat} {a : Act} {w : World} (row : Option Nat) (hm : P.follows .mixedOrders = true)
    (h : wpAnyH P .any ops Q (fun x => w.drew.grownBy x row) ops.size (Array.replicate ops.size false) a w.drew) : (Code.region id ops true).wp P Q a w :=
  wp_region_held hm h

theorem rg_take {oi : Oper} {v : Value} {fuel : Nat} {listed : Array Bool} {a : Act} {w : World} (i : Nat) (hi' : ops.toList[i]? = some oi)
    (hs : Region.noSelect ops = true) (hf : Region.free md ops listed i = true) (hr : (Region.ready md ops listed).contains i = true)
    (hQ : ∀ c a w, Q (.panic c) (a.put oi.dst v) w → Q (.panic c) a w)
    (hw : Region.wanted oi (yielded ops a.tmps) = true) (hv : ∀ x, w.grownBy x row → (execOp a.eval oi).run P x = .ok (.value v) x)
    (h : wpAnyH P md ops Q (fun x => w.grownBy x row) fuel (listed.setIfInBounds i true) (a.put oi.dst v) w) : wpAnyH P md ops Q (fun x => w.grownBy x row) (fuel + 1) listed a w :=
  wpAnyH_take (by rw [← Array.getElem?_toList]; exact hi') hs hf hr hQ (Or.inl ⟨hw, hv⟩) (World.grownBy.refl w row) h

theorem rg_skip {oi : Oper} {fuel : Nat} {listed : Array Bool} {a : Act} {w : World} (i : Nat) (hi' : ops.toList[i]? = some oi)
    (hs : Region.noSelect ops = true) (hf : Region.free md ops listed i = true) (hr : (Region.ready md ops listed).contains i = true)
    (hQ : ∀ c a w, Q (.panic c) (a.put oi.dst undef) w → Q (.panic c) a w)
    (hw : Region.wanted oi (yielded ops a.tmps) = false)
    (h : wpAnyH P md ops Q (fun x => w.grownBy x row) fuel (listed.setIfInBounds i true) (a.put oi.dst undef) w) : wpAnyH P md ops Q (fun x => w.grownBy x row) (fuel + 1) listed a w :=
  wpAnyH_take (by rw [← Array.getElem?_toList]; exact hi') hs hf hr hQ (Or.inr ⟨hw, rfl⟩) (World.grownBy.refl w row) h

theorem rg_step {oi : Oper} {fuel : Nat} {listed : Array Bool} {a : Act} {w : World} (i : Nat) (hi' : ops.toList[i]? = some oi)
    (hr : Region.ready md ops listed = [i]) (hw : Region.wanted oi (yielded ops a.tmps) = true)
    (h : ∀ K : Act → World → Prop, Shut (∀ a' w', w.grownBy w' row → wpAnyH P md ops Q (fun x => w'.grownBy x row) fuel (listed.setIfInBounds i true) a' w' → K a' w') → Oper.wp P oi a w K Q) :
    wpAnyH P md ops Q (fun x => w.grownBy x row) (fuel + 1) listed a w := by
  have hi : ops[i]? = some oi := by rw [← Array.getElem?_toList]; exact hi'
  refine wpAnyH_all hr (by simp) fun j hj => ?_
  obtain rfl : j = i := by simpa using hj
  have h1 := h (fun a' w' => w.grownBy w' row ∧ wpAnyH P md ops Q (fun x => w.grownBy x row) fuel (listed.setIfInBounds j true) a' w')
    (fun a' w' hg hW => ⟨hg, wpAnyH_mono (fun x hx => hg.trans (by exact hx)) fuel _ _ _ hW⟩)
  unfold wpOp
  simp only [hi, hw, if_true]
  exact .inl h1

theorem rg_done {listed : Array Bool} {a : Act} {w : World} {S : World → Prop} {fuel : Nat} (hr : Region.ready md ops listed = []) (h : Q .normal a w) : wpAnyH P md ops Q S fuel listed a w :=
  wpAnyH_done hr h fuel
end
end Go.Proofs.Ytmdanljnalfkfaa
