/-
  From the reading of a statement's arguments to the words of the walks: slices of options.
-/
import Derived.Test.YtjpmfmmgmlnanaaFrame
import Derived.Test.YtjpmfmmgmlnanaaOpt1
import Derived.Deep.SlicePairs
namespace Go.Proofs.Ytjpmfmmgmlnanaa
open Go.ChangeShapes Go.WideShapes Go.ChangeAt Go.RowKit

instance : Inhabited Op1 := ⟨⟨0, none, 0, 0, []⟩⟩
theorem opCells_range (f : Nat → Op1) : ∀ (n j : Nat) (u : Value), (opCells ((List.range n).map f))[j]? = some u → j / 2 < n ∧ u = (if j % 2 = 0 then .int .i64 (f (j / 2)).code else .slice (f (j / 2)).A (f (j / 2)).n (f (j / 2)).c)
  | n, j, u, h => by
    have hl := (List.getElem?_eq_some_iff.1 h).1
    have hlen : ∀ (l : List Op1), (opCells l).length = l.length * 2 := by
      intro l
      induction l with
      | nil => rfl
      | cons o r ih =>
        show (_ :: _ :: opCells r).length = _
        rw [List.length_cons, List.length_cons, ih, List.length_cons]; omega
    rw [hlen] at hl
    simp at hl
    have hj : j / 2 < n := by omega
    obtain ⟨h0, h1⟩ := opCells_get ((List.range n).map f) (j / 2) (by simpa using hj)
    simp only [List.getElem_map, List.getElem_range] at h0 h1
    refine ⟨hj, ?_⟩
    by_cases hm : j % 2 = 0
    · rw [if_pos hm]
      rw [show j / 2 * 2 = j by omega, h] at h0
      injection h0
    · rw [if_neg hm]
      rw [show j / 2 * 2 + 1 = j by omega, h] at h1
      injection h1

set_option maxRecDepth 100000 in
/-- A slice of options that came in, by its cells. -/
theorem open_opts_at {H : Type} {enc : TypeId × Value → H} {W : World} {fuel : Nat} {cs : List Value} {y : DataW H × List MemPlace}
    (hf : DataW.trod enc Try.prog W 0 (fun _ => true) true fuel 35 cs = some y) :
    ∃ A n c l, cs = [.slice A n c] ∧ OS W W.heap.size A n c l := by
  rcases Deep.open_slice_pairs Try.underlying35 Try.underlying64 (by kernel_rfl) rfl rfl (by kernel_rfl) (by kernel_rfl) hf with ⟨hcs, _⟩ | ⟨x, len, cap, m, n, V0, V1, D0, D1, P0, P1, hcs, _, hl, hm, hmm, _, hcell⟩
  · exact ⟨none, 0, 0, [], hcs, rfl, Nat.le_refl _, by simp [maxLen], .inl rfl, by simp⟩
  · have hml : len ≤ m := by rw [hmm]; simp; omega
    have each : ∀ i, i < len → ∃ o : Op1, V0 i = .int .i64 o.code ∧ V1 i = .slice o.A o.n o.c ∧ BS W W.heap.size o.A o.n o.c o.body := by
      intro i hi
      obtain ⟨_, _, t0, t1⟩ := hcell i (by omega)
      obtain ⟨k, hk, _, _⟩ := DataW.trod_int Try.underlying3 t0
      obtain ⟨A, n', c', l, hs, hb⟩ := open_bytes_at t1
      injection hk with hk
      injection hs with hs
      exact ⟨⟨k, A, n', c', l⟩, hk, hs, hb⟩
    obtain ⟨f, hfn⟩ := Deep.choose_lt each
    refine ⟨some x, len, cap, (List.range len).map f, hcs, by simp, hl, hm, ?_, ?_⟩
    · by_cases h0 : len = 0
      · exact .inl (by simp [h0, opCells])
      · obtain ⟨hx, _, _, _⟩ := hcell 0 (by omega)
        have hspot : x.spot = none := by
          rcases hxs : x.spot with _ | s
          · rfl
          · simp [Addr.add, World.cell?, hxs] at hx
            split at hx <;> simp at hx
        obtain ⟨b, o, s⟩ := x
        simp only at hspot
        subst hspot
        refine .inr ⟨b, o, rfl, ?_, fun j u hu => ?_⟩
        · have := World.block_lt_of_cell? W _ hx
          simpa [Addr.add] using this
        · obtain ⟨hj, hu⟩ := opCells_range f len j u hu
          obtain ⟨h0, h1, _, _⟩ := hcell (j / 2) (by omega)
          rw [Addr.add_lit] at h0 h1
          obtain ⟨e0, e1, _⟩ := hfn (j / 2) hj
          by_cases hp : j % 2 = 0
          · rw [if_pos hp] at hu
            rw [show j / 2 * 2 = j by omega] at h0
            rw [h0, hu, e0]
          · rw [if_neg hp] at hu
            rw [show j / 2 * 2 + 1 = j by omega] at h1
            rw [h1, hu, e1]
    · intro o ho
      obtain ⟨i, hi, rfl⟩ := List.mem_map.1 ho
      exact (hfn i (List.mem_range.1 hi)).2.2
set_option maxRecDepth 100000 in
theorem open_opts {H : Type} {enc : TypeId × Value → H} {W : World} {base : Nat} {v : Value} {d : DataW H} {p : List MemPlace}
    (hv : Value.okWide Try.prog W .any base 35 v) (h : DataW.Trod enc Try.prog W 0 (fun _ => true) true 35 v d p) :
    ∃ A n c l, v = .slice A n c ∧ OS W W.heap.size A n c l := by
  obtain ⟨a0, len0, cap0, rfl⟩ := okWide_slice Try.underlying35 hv
  obtain ⟨fuel, hf⟩ := h
  obtain ⟨A, n, c, l, hcs, hb⟩ := open_opts_at hf
  simp [Value.cells] at hcs
  obtain ⟨rfl, rfl, rfl⟩ := hcs
  exact ⟨_, _, _, l, rfl, hb⟩
end Go.Proofs.Ytjpmfmmgmlnanaa
