/-
  Slices of int that came in.
-/
import Derived.Test.YtnmdiageigbphaaDoorFrame
import Derived.Test.YtnmdiageigbphaaDoorAt
namespace Go.Proofs.YtnmdiageigbphaaDoor
open Go.ChangeShapes Go.WideShapes Go.ChangeAt Go.RowKit

def iv (l : List Int) : List Value := l.map (Value.int .i64)
/-- A slice of int that reads as the list l, below block B. -/
def IS (w : World) (B : Nat) (A : Option Addr) (n c : Nat) (l : List Int) : Prop :=
  n = l.length ∧ n ≤ c ∧ c ≤ maxLen ∧ Row w B A (iv l) ∧ ∀ x ∈ l, -9223372036854775808 ≤ x ∧ x ≤ 9223372036854775807
theorem IS.below {w w' : World} {B n c : Nat} {A : Option Addr} {l : List Int} (h : IS w B A n c l) (hb : Below B w w') : IS w' B A n c l :=
  ⟨h.1, h.2.1, h.2.2.1, h.2.2.2.1.below hb, h.2.2.2.2⟩
theorem IS.at_ {w : World} {B n c j : Nat} {A : Option Addr} {l : List Int} (h : IS w B A n c l) (hj : j < n) :
    ∃ b o v, A = some ⟨b, o, none⟩ ∧ b < B ∧ w.cell? ⟨b, o + j, none⟩ = some (.int .i64 v) ∧ l[j]? = some v ∧ -9223372036854775808 ≤ v ∧ v ≤ 9223372036854775807 := by
  have hl : j < l.length := by have := h.1; omega
  obtain ⟨b, o, hA, hb, hc⟩ := h.2.2.2.1.at_ (k := j) (u := .int .i64 l[j]) (by simp [iv, hl])
  exact ⟨b, o, l[j], hA, hb, hc, List.getElem?_eq_getElem hl, h.2.2.2.2 _ (List.getElem_mem hl)⟩

set_option maxRecDepth 100000 in
theorem open_intslice {H : Type} {enc : TypeId × Value → H} {W : World} {base : Nat} {v : Value} {d : DataW H} {p : List MemPlace}
    (hv : Value.okWide Tryd.prog W .any base 22 v) (h : DataW.Trod enc Tryd.prog W 0 (fun _ => true) true 22 v d p) :
    ∃ A n c l, v = .slice A n c ∧ IS W W.heap.size A n c l := by
  obtain ⟨a0, len0, cap0, rfl⟩ := okWide_slice Tryd.underlying22 hv
  obtain ⟨fuel, hf⟩ := h
  refine ⟨a0, len0, cap0, ?_⟩
  rcases open_ints Tryd.underlying22 Tryd.underlying3 (by kernel_rfl) hf with ⟨hcs, _⟩ | ⟨x, l, c, zs, hcs, _, hl, hm, hz, _, hcell, hwz⟩
  · simp [Value.cells] at hcs
    obtain ⟨rfl, rfl, rfl⟩ := hcs
    exact ⟨[], rfl, rfl, Nat.le_refl _, by simp [maxLen], .inl rfl, by simp⟩
  · simp [Value.cells] at hcs
    obtain ⟨rfl, rfl, rfl⟩ := hcs
    have hzc : zs.length = cap0 := by simpa using hz
    refine ⟨zs.take len0, rfl, by simp; omega, hl, hm, ?_, fun x hx => wf_i64 (hwz x (List.mem_of_mem_take hx))⟩
    by_cases h0 : len0 = 0
    · exact .inl (by simp [h0, iv])
    · have hx := hcell 0 (by omega)
      have hspot : x.spot = none := by
        rcases hxs : x.spot with _ | s
        · rfl
        · simp [Addr.add, World.cell?, hxs] at hx
          split at hx <;> simp at hx
      obtain ⟨b, o, s⟩ := x
      simp only at hspot
      subst hspot
      refine .inr ⟨b, o, rfl, ?_, fun j u hu => ?_⟩
      · have := World.block_lt_of_cell? W _ hx
        simpa [Addr.add] using this
      · have hj : j < len0 := by
          have := (List.getElem?_eq_some_iff.1 hu).1
          simp [iv] at this
          omega
        have h1 := hcell j (by omega)
        rw [Addr.add_lit] at h1
        rw [h1]
        simp [iv, List.getElem?_take, hj, show j < zs.length by omega] at hu
        rw [← hu]
        simp [List.getD, show j < zs.length by omega]
end Go.Proofs.YtnmdiageigbphaaDoor
