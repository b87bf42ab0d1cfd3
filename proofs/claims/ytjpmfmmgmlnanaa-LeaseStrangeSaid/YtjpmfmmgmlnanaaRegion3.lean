/-
  A region that draws its order, by an invariant: what holds of whatever operations have come up.
-/
import Derived.Test.YtjpmfmmgmlnanaaRegion2
namespace Go.Proofs.Ytjpmfmmgmlnanaa
open Go.RowKit
section
variable {P : Program} {ops : Array Oper} {Q : Exit → Act → World → Prop} {md : Region.Mode}

theorem count_set : ∀ (l : List Bool) (i : Nat), l[i]? = some false → (l.set i true).count false + 1 = l.count false
  | [], i, h => by simp at h
  | b :: r, 0, h => by
    simp at h
    subst h
    simp
  | b :: r, i + 1, h => by
    have ih := count_set r i (by simpa using h)
    rw [List.set_cons_succ, List.count_cons, List.count_cons]
    omega
theorem getD_set' (listed : Array Bool) (i j : Nat) (hi : i < listed.size) : (listed.setIfInBounds i true).getD j true = if j = i then true else listed.getD j true := by
  rw [Array.getD_eq_getD_getElem?, Array.getD_eq_getD_getElem?, Array.getElem?_setIfInBounds]
  by_cases h : i = j
  · subst h
    rw [if_pos rfl, if_pos rfl, if_pos hi]
    rfl
  · rw [if_neg h, if_neg (fun e => h e.symm)]
theorem all_listed (hlt : ∀ (i : Nat) (oi : Oper), ops[i]? = some oi → ∀ e ∈ oi.after, e.on < i) (listed : Array Bool) (hs : listed.size = ops.size) (hr : Region.ready md ops listed = []) : ∀ n i, i < n → listed.getD i true = true
  | 0, i, h => by omega
  | n + 1, i, h => by
    have ih := all_listed hlt listed hs hr n
    rcases Nat.lt_or_ge i n with h1 | h1
    · exact ih i h1
    · have hin : i = n := by omega
      subst hin
      rcases Nat.lt_or_ge i ops.size with h2 | h2
      · cases hb : listed.getD i true with
        | true => rfl
        | false =>
          have : i ∈ Region.ready md ops listed := mem_ready.2 ⟨hb, ops[i], Array.getElem?_eq_getElem h2, fun e he _ => by
            have h3 := hlt i _ (Array.getElem?_eq_getElem h2) e he
            have h4 := ih e.on h3
            rw [Array.getD_eq_getD_getElem?] at h4 ⊢
            rw [Array.getElem?_eq_getElem (show e.on < listed.size by omega)] at h4 ⊢
            exact h4⟩
          rw [hr] at this
          cases this
      · rw [Array.getD_eq_getD_getElem?, Array.getElem?_eq_none (by omega)]
        rfl

/-- Whatever order is drawn: what I says of the operations that have come up (L) is kept by each step, and gives the end. -/
theorem rg_all {S : World → Prop} (I : (Nat → Bool) → Act → World → Prop) (hlt : ∀ (i : Nat) (oi : Oper), ops[i]? = some oi → ∀ e ∈ oi.after, e.on < i)
    (hS : ∀ L a w, I L a w → S w)
    (step : ∀ (L : Nat → Bool) (a : Act) (w : World) (i : Nat) (oi : Oper), I L a w → L i = false → ops.toList[i]? = some oi → (∀ e ∈ oi.after, Region.binds md e = true → L e.on = true) →
      Region.wanted oi (yielded ops a.tmps) = true ∧ ∀ K : Act → World → Prop, Shut (∀ a' w', I (fun j => if j = i then true else L j) a' w' → K a' w') → Oper.wp P oi a w K Q)
    (fin : ∀ (L : Nat → Bool) (a : Act) (w : World), I L a w → (∀ i, i < ops.size → L i = true) → Q .normal a w) :
    ∀ (fuel : Nat) (listed : Array Bool) (a : Act) (w : World), listed.size = ops.size → listed.toList.count false ≤ fuel → I (fun j => listed.getD j true) a w → wpAnyH P md ops Q S fuel listed a w
  | 0, listed, a, w, hs, hf, hI => by
    have hr : Region.ready md ops listed = [] := by
      rcases hrr : Region.ready md ops listed with _ | ⟨i, rest⟩
      · rfl
      · have hi : i ∈ Region.ready md ops listed := by rw [hrr]; exact List.mem_cons_self ..
        obtain ⟨h0, o, ho, _⟩ := mem_ready.1 hi
        have hlt' := (Array.getElem?_eq_some_iff.1 ho).1
        rw [Array.getD_eq_getD_getElem?, Array.getElem?_eq_getElem (by omega)] at h0
        have h1 : false ∈ listed.toList := by
          rw [← show listed[i] = false from h0]
          exact Array.getElem_mem_toList (by omega)
        have := List.count_pos_iff.2 h1
        omega
    exact ⟨hr, fin _ _ _ hI fun i hi => all_listed hlt listed hs hr ops.size i hi⟩
  | fuel + 1, listed, a, w, hs, hf, hI => by
    refine ⟨fun hr => fin _ _ _ hI fun i hi => all_listed hlt listed hs hr ops.size i hi, fun i hi => ?_⟩
    obtain ⟨h0, oi, ho, hall⟩ := mem_ready.1 hi
    have hlt' := (Array.getElem?_eq_some_iff.1 ho).1
    have hil : i < listed.size := by omega
    have h0' : listed.toList[i]? = some false := by
      rw [Array.getD_eq_getD_getElem?, Array.getElem?_eq_getElem hil] at h0
      rw [Array.getElem?_toList, Array.getElem?_eq_getElem hil]
      exact congrArg some h0
    obtain ⟨hw, hst⟩ := step _ a w i oi hI h0 (by rw [Array.getElem?_toList]; exact ho) (fun e he hb => by
      have h1 := hall e he hb
      rw [Array.getD_eq_getD_getElem?] at h1 ⊢
      rcases h2 : listed[e.on]? with _ | b
      · rw [h2] at h1; cases h1
      · rw [h2] at h1; exact h1)
    have h1 := hst (fun a' w' => S w' ∧ wpAnyH P md ops Q S fuel (listed.setIfInBounds i true) a' w') (fun a' w' hI' => by
      have hI2 : I (fun j => (listed.setIfInBounds i true).getD j true) a' w' := by
        have e : (fun j => (listed.setIfInBounds i true).getD j true) = fun j => if j = i then true else listed.getD j true := funext fun j => getD_set' listed i j hil
        rw [e]
        exact hI'
      refine ⟨hS _ _ _ hI', rg_all I hlt hS step fin fuel _ a' w' (by simpa using hs) ?_ hI2⟩
      have h3 := count_set listed.toList i h0'
      rw [Array.toList_setIfInBounds]
      omega)
    unfold wpOp
    simp only [ho, hw, if_true]
    exact .inl h1
/-- Each operation waits for earlier ones alone: by reckoning. -/
theorem earlier (h : ((List.range ops.size).all fun i => match ops[i]? with | some oi => oi.after.all (fun e => decide (e.on < i)) | none => true) = true) : ∀ (i : Nat) (oi : Oper), ops[i]? = some oi → ∀ e ∈ oi.after, e.on < i := by
  intro i oi hi e he
  have h1 := List.all_eq_true.1 h i (List.mem_range.2 (Array.getElem?_eq_some_iff.1 hi).1)
  simp only [hi] at h1
  have h2 := Array.all_eq_true'.1 h1 e he
  simpa using h2
end
end Go.Proofs.Ytjpmfmmgmlnanaa
