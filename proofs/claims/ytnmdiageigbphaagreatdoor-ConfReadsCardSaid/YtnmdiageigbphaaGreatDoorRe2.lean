/-
  The reference's Check, plainly.
-/
import Derived.Test.YtnmdiageigbphaaGreatDoorRe1
namespace Go.Proofs.YtnmdiageigbphaaGreatDoor
open Go.RowKit

theorem adeq_num2 (a b : Ad4) : adeq a b = decide (numA a = numA b) := by
  rw [Bool.eq_iff_iff, adeq_iff, decide_eq_true_iff]
  exact ⟨fun h => h ▸ rfl, numA_inj⟩
/-- The reference's first test. -/
def rnetB (c : Cf) : Bool := inR c.lanB 8 30 && adeq c.lanA (firstA c.lanA c.lanB) && inB c c.own && !grpB c.lm && !grpB c.wm
theorem rnetB_eq (c : Cf) : rnetB c = netB c := by
  rw [rnetB, netB]
  by_cases h : inB c c.own = true
  · have h1 : hasN (numA c.own) (numA c.lanA) (behN c.lanB) = true := by
      rw [inB] at h
      simp only [Bool.and_eq_true] at h
      exact h.1.1
    have h2 := firstA_eq c.lanA c.own c.lanB
    rw [h1, adeq_iff] at h2
    rw [h2]
  · rw [Bool.not_eq_true] at h
    rw [h]
    simp
/-- One kept device, held against those ahead of it. -/
def goodF (c : Cf) (l : List Fx) (i : Nat) : Prop := ∀ f, l[i]? = some f → devB c f.a = true ∧ ∀ k, k < i → ∀ g, l[k]? = some g → g.m ≠ f.m ∧ g.a ≠ f.a
theorem fixGo_iff (c : Cf) : ∀ (r pre : List Fx), (∀ f ∈ pre, True) → ∀ (sm sa : List (List UInt8)), (∀ x, x ∈ sm ↔ ∃ g ∈ pre, g.m.bytes = x) → (∀ x, x ∈ sa ↔ ∃ g ∈ pre, g.a.bytes = x) →
    (fixGo c sm sa r = true ↔ ∀ i, pre.length ≤ i → goodF c (pre ++ r) i)
  | [], pre, _, sm, sa, _, _ => by
    rw [fixGo]
    refine ⟨fun _ i hi f hf => ?_, fun _ => rfl⟩
    rw [List.append_nil, List.getElem?_eq_none (by omega)] at hf
    cases hf
  | f :: r, pre, _, sm, sa, h1, h2 => by
    have ih := fixGo_iff c r (pre ++ [f]) (fun _ _ => trivial) (f.m.bytes :: sm) (f.a.bytes :: sa) (fun x => by
      rw [List.mem_cons, h1]
      constructor
      · rintro (rfl | ⟨g, hg, rfl⟩)
        · exact ⟨f, by simp, rfl⟩
        · exact ⟨g, by simp [hg], rfl⟩
      · rintro ⟨g, hg, rfl⟩
        rcases List.mem_append.1 hg with hg | hg
        · exact .inr ⟨g, hg, rfl⟩
        · rw [List.mem_singleton.1 hg]; exact .inl rfl) (fun x => by
      rw [List.mem_cons, h2]
      constructor
      · rintro (rfl | ⟨g, hg, rfl⟩)
        · exact ⟨f, by simp, rfl⟩
        · exact ⟨g, by simp [hg], rfl⟩
      · rintro ⟨g, hg, rfl⟩
        rcases List.mem_append.1 hg with hg | hg
        · exact .inr ⟨g, hg, rfl⟩
        · rw [List.mem_singleton.1 hg]; exact .inl rfl)
    rw [List.append_assoc, List.singleton_append, List.length_append, List.length_singleton] at ih
    rw [fixGo]
    simp only [Bool.and_eq_true, Bool.not_eq_true', decide_eq_false_iff_not]
    rw [ih, h1, h2]
    have hat : (pre ++ f :: r)[pre.length]? = some f := by rw [List.getElem?_append_right (Nat.le_refl _), Nat.sub_self]; rfl
    constructor
    · rintro ⟨⟨⟨k1, k2⟩, k3⟩, k4⟩ i hi
      rcases Nat.lt_or_ge pre.length i with h | h
      · exact k4 i (by omega)
      · obtain rfl : i = pre.length := by omega
        intro f' hf'
        rw [hat] at hf'
        injection hf' with hf'
        subst hf'
        refine ⟨k1, fun k hk g hg => ?_⟩
        rw [List.getElem?_append_left hk] at hg
        have hm := List.mem_of_getElem? hg
        exact ⟨fun e => k2 ⟨g, hm, by rw [e]⟩, fun e => k3 ⟨g, hm, by rw [e]⟩⟩
    · intro k
      obtain ⟨k1, k2⟩ := k pre.length (Nat.le_refl _) f hat
      refine ⟨⟨⟨k1, ?_⟩, ?_⟩, fun i hi => k i (by omega)⟩
      · rintro ⟨g, hg, e⟩
        obtain ⟨j, hj⟩ := List.mem_iff_getElem?.1 hg
        have hjl := (List.getElem?_eq_some_iff.1 hj).1
        exact (k2 j hjl g (by rw [List.getElem?_append_left hjl]; exact hj)).1 (bytes_mac_inj e)
      · rintro ⟨g, hg, e⟩
        obtain ⟨j, hj⟩ := List.mem_iff_getElem?.1 hg
        have hjl := (List.getElem?_eq_some_iff.1 hj).1
        exact (k2 j hjl g (by rw [List.getElem?_append_left hjl]; exact hj)).2 (bytes_ad_inj e)
theorem fixB_iff (c : Cf) (l : List Fx) (hl : l.length ≤ 32) : fixB c l = true ↔ ∀ i, goodF c l i := by
  rw [fixB, decide_eq_true hl, Bool.and_true]
  have h := fixGo_iff c l [] (fun _ _ => trivial) [] [] (by simp) (by simp)
  simpa using h
/-- One open port, held against those ahead of it. -/
def goodO (c : Cf) (l : List Opn) (i : Nat) : Prop :=
  ∀ f, l[i]? = some f → (protB f.pr = true ∧ inR f.po 1 (c.low - 1) = true ∧ inR f.tp 1 65535 = true ∧ devB c f.a = true) ∧ ∀ k, k < i → ∀ g, l[k]? = some g → ¬ (g.pr = f.pr ∧ g.po = f.po)
theorem opnGo_iff (c : Cf) : ∀ (r pre : List Opn), (∀ f ∈ pre ++ r, wfOp f) → ∀ (S : List (List UInt8)), (∀ x, x ∈ S ↔ ∃ g ∈ pre, twoK g.pr g.po = x) →
    (opnGo c S r = true ↔ ∀ i, pre.length ≤ i → goodO c (pre ++ r) i)
  | [], pre, _, S, _ => by
    rw [opnGo]
    refine ⟨fun _ i hi f hf => ?_, fun _ => rfl⟩
    rw [List.append_nil, List.getElem?_eq_none (by omega)] at hf
    cases hf
  | f :: r, pre, hw, S, h1 => by
    have ih := opnGo_iff c r (pre ++ [f]) (fun x hx => hw x (by simpa using hx)) (twoK f.pr f.po :: S) (fun x => by
      rw [List.mem_cons, h1]
      constructor
      · rintro (rfl | ⟨g, hg, rfl⟩)
        · exact ⟨f, by simp, rfl⟩
        · exact ⟨g, by simp [hg], rfl⟩
      · rintro ⟨g, hg, rfl⟩
        rcases List.mem_append.1 hg with hg | hg
        · exact .inr ⟨g, hg, rfl⟩
        · rw [List.mem_singleton.1 hg]; exact .inl rfl)
    rw [List.append_assoc, List.singleton_append, List.length_append, List.length_singleton] at ih
    rw [opnGo]
    simp only [Bool.and_eq_true, Bool.not_eq_true', decide_eq_false_iff_not]
    rw [ih, h1]
    have hat : (pre ++ f :: r)[pre.length]? = some f := by rw [List.getElem?_append_right (Nat.le_refl _), Nat.sub_self]; rfl
    have hwf := hw f (by simp)
    constructor
    · rintro ⟨⟨⟨⟨⟨k1, k2⟩, k3⟩, k4⟩, k5⟩, k6⟩ i hi
      rcases Nat.lt_or_ge pre.length i with h | h
      · exact k6 i (by omega)
      · obtain rfl : i = pre.length := by omega
        intro f' hf'
        rw [hat] at hf'
        injection hf' with hf'
        subst hf'
        refine ⟨⟨k1, k2, k3, k4⟩, fun k hk g hg e => ?_⟩
        rw [List.getElem?_append_left hk] at hg
        exact k5 ⟨g, List.mem_of_getElem? hg, by rw [e.1, e.2]⟩
    · intro k
      obtain ⟨⟨k1, k2, k3, k4⟩, k5⟩ := k pre.length (Nat.le_refl _) f hat
      refine ⟨⟨⟨⟨⟨k1, k2⟩, k3⟩, k4⟩, ?_⟩, fun i hi => k i (by omega)⟩
      rintro ⟨g, hg, e⟩
      obtain ⟨j, hj⟩ := List.mem_iff_getElem?.1 hg
      have hjl := (List.getElem?_eq_some_iff.1 hj).1
      have hwg := hw g (by simp [hg])
      exact k5 j hjl g (by rw [List.getElem?_append_left hjl]; exact hj) (twoK_inj hwg.1 hwg.2 hwf.1 hwf.2 e)
theorem opnB_iff (c : Cf) (l : List Opn) (hl : l.length ≤ 32) (hw : ∀ f ∈ l, wfOp f) : opnB c l = true ↔ ∀ i, goodO c l i := by
  rw [opnB, decide_eq_true hl, Bool.and_true]
  have h := opnGo_iff c l [] (by simpa using hw) [] (by simp)
  simpa using h
end Go.Proofs.YtnmdiageigbphaaGreatDoor
