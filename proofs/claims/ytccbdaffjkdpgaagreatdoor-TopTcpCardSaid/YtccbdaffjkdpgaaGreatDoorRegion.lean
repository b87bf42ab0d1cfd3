/-
  A region that draws its order, walked in one line: what reads or reckons is taken first, and behind each call the readings are known anew.
-/
import Derived.Test.YtccbdaffjkdpgaaGreatDoorBase
import Derived.Deep.RegionHeld3
import Derived.Deep.RegionWith
import Derived.Deep.DeepCutAuto
namespace Go.Proofs.YtccbdaffjkdpgaaGreatDoor
section
open Go.RowKit

/-- w' is w with new blocks; of the old ones only such as M lets may have changed. -/
structure Ext (M : Nat → Prop) (w w' : World) : Prop where
  os : w'.os = w.os
  tape : w'.tape = w.tape
  output : w'.output = w.output
  size : w.heap.size ≤ w'.heap.size
  block : ∀ k, k < w.heap.size → ¬ M k → w'.heap[k]? = w.heap[k]?

section
variable {M : Nat → Prop} {w w' w2 : World}
theorem Ext.refl (M : Nat → Prop) (w : World) : Ext M w w := ⟨rfl, rfl, rfl, Nat.le_refl _, fun _ _ _ => rfl⟩
theorem Ext.trans (h : Ext M w w') (k : Ext M w' w2) : Ext M w w2 :=
  ⟨k.os.trans h.os, k.tape.trans h.tape, k.output.trans h.output, Nat.le_trans h.size k.size, fun i hi hn => (k.block i (Nat.lt_of_lt_of_le hi h.size) hn).trans (h.block i hi hn)⟩
theorem Ext.of_below (M : Nat → Prop) {H : Nat} (h : Below H w w') (hM : ∀ k, H ≤ k → k < w.heap.size → M k) : Ext M w w' :=
  ⟨h.os, h.tape, h.output, h.size, fun k hk hn => h.block k (by
    rcases Nat.lt_or_ge k H with hlt | hge
    · exact hlt
    · exact absurd (hM k hge hk) hn)⟩
theorem Ext.below_all (M : Nat → Prop) (h : Below w.heap.size w w') : Ext M w w' := Ext.of_below M h fun k h1 h2 => by omega
theorem Ext.of_grown {row : Option Nat} (h : w.grownBy w' row) (hM : ∀ k, row = some k → M k) : Ext M w w' :=
  ⟨h.os, h.tape, h.output, h.size, fun k hk hn => h.block k hk fun e => hn (hM k e.symm)⟩
theorem Ext.below {H : Nat} (h : Ext M w w') (hH : H ≤ w.heap.size) (hM : ∀ k, k < H → ¬ M k) : Below H w w' :=
  ⟨h.os, h.tape, h.output, h.size, fun k hk => h.block k (by omega) (hM k hk)⟩
theorem Ext.alloc (h : Ext M w w') (o : Obj) : Ext M w (w'.alloc o) := h.trans (Ext.below_all M ((Below.refl _ _).alloc (Nat.le_refl _) o))
theorem Ext.realloc (w : World) (o o' : Obj) (hM : M w.heap.size) : Ext M (w.alloc o).drew (w.alloc o').drew :=
  ⟨rfl, rfl, rfl, by simp, fun k hk hn => by
    have hlt : k < w.heap.size := by
      have h1 : k < w.heap.size + 1 := by simpa using hk
      rcases Nat.lt_or_ge k w.heap.size with h2 | h2
      · exact h2
      · exact absurd (by rwa [show k = w.heap.size by omega]) hn
    exact (Below.heap_alloc w o' k hlt).trans (Below.heap_alloc w o k hlt).symm⟩
theorem Ext.drew (h : Ext M w w') : Ext M w w'.drew := ⟨h.os, h.tape, h.output, h.size, h.block⟩
theorem Ext.set (h : Ext M w w') {p : Addr} (hp : w.heap.size ≤ p.block ∨ M p.block) (u : Value) : Ext M w (w'.setCell p u) :=
  ⟨h.os, h.tape, h.output, by simpa [World.setCell] using h.size, fun k hk hn => (Below.heap_setCell w' p u k (by rintro rfl; rcases hp with hp | hp; omega; exact hn hp)).trans (h.block k hk hn)⟩
end

section
variable {P : Program} {ops : Array Oper} {Q : Exit → Act → World → Prop} {md : Region.Mode} {M : Nat → Prop}

theorem wpAnyH_mono {S S' : World → Prop} (hS : ∀ w, S' w → S w) : ∀ (fuel : Nat) (listed : Array Bool) (a : Act) (w : World), wpAnyH P md ops Q S' fuel listed a w → wpAnyH P md ops Q S fuel listed a w
  | 0, _, _, _, h => h
  | fuel + 1, _, _, _, h => ⟨h.1, fun i hi => wpOp_mono (fun a' w' h' => ⟨hS _ h'.1, wpAnyH_mono hS fuel _ a' w' h'.2⟩) (h.2 i hi)⟩

theorem rg_begin {id : Nat} {a : Act} {w : World} (M : Nat → Prop) (hm : P.follows .mixedOrders = true)
    (h : wpAnyH P .any ops Q (fun x => Ext M w.drew x) ops.size (Array.replicate ops.size false) a w.drew) : (Code.region id ops true).wp P Q a w :=
  wp_region_held hm h

/-- The beginning, with facts on the world behind the draw. -/
theorem rg_begin_with {id : Nat} {a : Act} {w : World} (M : Nat → Prop) (F : World → Prop) (hm : P.follows .mixedOrders = true) (hF : F w.drew)
    (h : F w.drew → wpAnyH P .any ops Q (fun x => Ext M w.drew x) ops.size (Array.replicate ops.size false) a w.drew) : (Code.region id ops true).wp P Q a w :=
  wp_region_held hm (h hF)

theorem rg_take {oi : Oper} {v : Value} {fuel : Nat} {listed : Array Bool} {a : Act} {w : World} (i : Nat) (hi' : ops.toList[i]? = some oi)
    (hs : Region.noSelect ops = true) (hf : Region.free md ops listed i = true) (hr : (Region.ready md ops listed).contains i = true)
    (hQ : ∀ c a w, Q (.panic c) (a.put oi.dst v) w → Q (.panic c) a w)
    (hw : Region.wanted oi (yielded ops a.tmps) = true) (hv : ∀ x, Ext M w x → (execOp a.eval oi).run P x = .ok (.value v) x)
    (h : wpAnyH P md ops Q (fun x => Ext M w x) fuel (listed.setIfInBounds i true) (a.put oi.dst v) w) : wpAnyH P md ops Q (fun x => Ext M w x) (fuel + 1) listed a w :=
  wpAnyH_take (by rw [← Array.getElem?_toList]; exact hi') hs hf hr hQ (Or.inl ⟨hw, hv⟩) (Ext.refl M w) h

theorem rg_skip {oi : Oper} {fuel : Nat} {listed : Array Bool} {a : Act} {w : World} (i : Nat) (hi' : ops.toList[i]? = some oi)
    (hs : Region.noSelect ops = true) (hf : Region.free md ops listed i = true) (hr : (Region.ready md ops listed).contains i = true)
    (hQ : ∀ c a w, Q (.panic c) (a.put oi.dst undef) w → Q (.panic c) a w)
    (hw : Region.wanted oi (yielded ops a.tmps) = false)
    (h : wpAnyH P md ops Q (fun x => Ext M w x) fuel (listed.setIfInBounds i true) (a.put oi.dst undef) w) : wpAnyH P md ops Q (fun x => Ext M w x) (fuel + 1) listed a w :=
  wpAnyH_take (by rw [← Array.getElem?_toList]; exact hi') hs hf hr hQ (Or.inr ⟨hw, rfl⟩) (Ext.refl M w) h

theorem rg_step {oi : Oper} {fuel : Nat} {listed : Array Bool} {a : Act} {w : World} (i : Nat) (hi' : ops.toList[i]? = some oi)
    (hr : Region.ready md ops listed = [i]) (hw : Region.wanted oi (yielded ops a.tmps) = true)
    (h : ∀ K : Act → World → Prop, Shut (∀ a' w', Ext M w w' → wpAnyH P md ops Q (fun x => Ext M w' x) fuel (listed.setIfInBounds i true) a' w' → K a' w') → Oper.wp P oi a w K Q) :
    wpAnyH P md ops Q (fun x => Ext M w x) (fuel + 1) listed a w := by
  have hi : ops[i]? = some oi := by rw [← Array.getElem?_toList]; exact hi'
  refine wpAnyH_all hr (by simp) fun j hj => ?_
  obtain rfl : j = i := by simpa using hj
  have h1 := h (fun a' w' => Ext M w w' ∧ wpAnyH P md ops Q (fun x => Ext M w x) fuel (listed.setIfInBounds j true) a' w')
    (fun a' w' hg hW => ⟨hg, wpAnyH_mono (fun x hx => hg.trans (by exact hx)) fuel _ _ _ hW⟩)
  unfold wpOp
  simp only [hi, hw, if_true]
  exact .inl h1

theorem rg_done {listed : Array Bool} {a : Act} {w : World} {S : World → Prop} {fuel : Nat} (hr : Region.ready md ops listed = []) (h : Q .normal a w) : wpAnyH P md ops Q S fuel listed a w :=
  wpAnyH_done hr h fuel
end
end
section
open Go.RowKit
section
variable {P : Program} {ops : Array Oper} {Q : Exit → Act → World → Prop} {md : Region.Mode} {M : Nat → Prop}
theorem rg_two {oi ok : Oper} {fuel : Nat} {listed : Array Bool} {a : Act} {w : World} (i k : Nat) (hi' : ops.toList[i]? = some oi) (hk' : ops.toList[k]? = some ok)
    (hr : Region.ready md ops listed = [i, k]) (hwi : Region.wanted oi (yielded ops a.tmps) = true) (hwk : Region.wanted ok (yielded ops a.tmps) = true)
    (h1 : ∀ K : Act → World → Prop, Shut (∀ a' w', Ext M w w' → wpAnyH P md ops Q (fun x => Ext M w' x) fuel (listed.setIfInBounds i true) a' w' → K a' w') → Oper.wp P oi a w K Q)
    (h2 : ∀ K : Act → World → Prop, Shut (∀ a' w', Ext M w w' → wpAnyH P md ops Q (fun x => Ext M w' x) fuel (listed.setIfInBounds k true) a' w' → K a' w') → Oper.wp P ok a w K Q) :
    wpAnyH P md ops Q (fun x => Ext M w x) (fuel + 1) listed a w := by
  have hi : ops[i]? = some oi := by rw [← Array.getElem?_toList]; exact hi'
  have hk : ops[k]? = some ok := by rw [← Array.getElem?_toList]; exact hk'
  refine wpAnyH_all hr (by simp) fun j hj => ?_
  have hj' : j = i ∨ j = k := by simpa using hj
  rcases hj' with e | e
  · subst e
    have h1 := h1 (fun a' w' => Ext M w w' ∧ wpAnyH P md ops Q (fun x => Ext M w x) fuel (listed.setIfInBounds j true) a' w')
      (fun a' w' hg hW => ⟨hg, wpAnyH_mono (fun x hx => hg.trans (by exact hx)) fuel _ _ _ hW⟩)
    unfold wpOp
    simp only [hi, hwi, if_true]
    exact .inl h1
  · subst e
    have h1 := h2 (fun a' w' => Ext M w w' ∧ wpAnyH P md ops Q (fun x => Ext M w x) fuel (listed.setIfInBounds j true) a' w')
      (fun a' w' hg hW => ⟨hg, wpAnyH_mono (fun x hx => hg.trans (by exact hx)) fuel _ _ _ hW⟩)
    unfold wpOp
    simp only [hk, hwk, if_true]
    exact .inl h1
end
end
end Go.Proofs.YtccbdaffjkdpgaaGreatDoor
