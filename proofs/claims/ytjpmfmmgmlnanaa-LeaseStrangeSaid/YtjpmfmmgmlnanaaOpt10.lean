/-
  opt.Put: options as bytes.
-/
import Derived.Test.YtjpmfmmgmlnanaaOpt9
namespace Go.Proofs.Ytjpmfmmgmlnanaa
open Go.RowKit

def BytesErrPost (w : World) (r : List UInt8 × Int) (e : Ending) (w' : World) : Prop :=
  ∃ A n c, e = .returned (.tuple #[.slice A n c, .int .i64 r.2]) ∧ OB w' w.heap.size A n c r.1 ∧ Below w.heap.size w w'
theorem OB.nil_ (w : World) (H : Nat) : OB w H none 0 0 [] := ⟨rfl, World.ownsRow_nil _ _ _ _⟩

theorem OB.apart {w : World} {H n c g : Nat} {A : Option Addr} {l : List UInt8} {cs : Array Value} {t : TypeId} (h : OB w H A n c l) (hg : w.heap[g]? = some (.cells cs t (0, 0))) (ht : t ≠ 5) :
    ∀ k, (Value.slice A n c).ownBlock = some k → H ≤ k ∧ k ≠ g := by
  intro k hk
  refine ⟨(h.2.lt k hk).1, ?_⟩
  rintro rfl
  rcases h.2.2 with ⟨h', _⟩ | ⟨g', cap, cur, h', _, hh, _⟩
  · rw [h'] at hk; simp [Value.ownBlock] at hk
  · rw [h'] at hk
    simp [Value.ownBlock] at hk
    subst hk
    rw [hh] at hg
    injection hg with hg
    injection hg with _ e _
    exact ht e.symm

/-- What is left to be written of an option. -/
def leftP (first : Bool) (c : UInt8) (r : List UInt8) : List UInt8 := if first || !r.isEmpty then piece c r else []
theorem piece_step (c : UInt8) (b : List UInt8) : piece c b = c :: UInt8.ofNat (min b.length 255) :: (b.take 255 ++ leftP false c (b.drop 255)) := by
  unfold piece leftP
  rw [pieceF]
  by_cases he : (b.drop 255).isEmpty
  · rw [if_pos he, he]; rfl
  · rw [if_neg he, show (b.drop 255).isEmpty = false by simpa using he]
    have : 255 < b.length := by
      rcases Nat.lt_or_ge 255 b.length with h1 | h1
      · exact h1
      · exact absurd (by simp [List.drop_eq_nil_of_le h1]) he
    rw [pieceF_more b.length c (b.drop 255) ((b.drop 255).length + 1) (by simp; omega) (by omega)]
    rfl
theorem leftP_step (first : Bool) (c : UInt8) (r : List UInt8) (h : first = true ∨ r ≠ []) :
    leftP first c r = [c, UInt8.ofNat (min r.length 255)] ++ r.take 255 ++ leftP false c (r.drop 255) := by
  have : (first || !r.isEmpty) = true := by
    rcases h with h | h
    · rw [h]; rfl
    · cases r
      · exact absurd rfl h
      · simp
  rw [leftP, if_pos this, piece_step]
  simp
theorem leftP_done (c : UInt8) : leftP false c [] = [] := rfl
theorem leftP_first (c : UInt8) (r : List UInt8) : leftP true c r = piece c r := rfl
theorem allO_cons (o : Ob) (r : List Ob) : allO (o :: r) = piece (byteN o.1) o.2 ++ allO r := by simp [allO]
theorem allO_drop (l : List Ob) (i : Nat) (o : Ob) (h : l[i]? = some o) : allO (l.drop i) = leftP true (byteN o.1) o.2 ++ allO (l.drop (i + 1)) := by
  obtain ⟨hi, rfl⟩ := List.getElem?_eq_some_iff.1 h
  rw [List.drop_eq_getElem_cons hi, allO_cons]
  rfl

/-- The first so many options may be written. -/
def goodTo (l : List Ob) (j : Nat) : Prop := goodO (l.take j)
theorem goodTo_zero (l : List Ob) : goodTo l 0 := by simp [goodTo, goodO]
theorem goodTo_succ (l : List Ob) (j : Nat) (o : Ob) (h : l[j]? = some o) : goodTo l (j + 1) ↔ goodTo l j ∧ (1 ≤ o.1 ∧ o.1 ≤ 254) ∧ ∀ i y, i < j → l[i]? = some y → y.1 ≠ o.1 := by
  obtain ⟨hj, rfl⟩ := List.getElem?_eq_some_iff.1 h
  unfold goodTo goodO
  rw [List.take_succ_eq_append_getElem hj, List.map_append, List.nodup_append]
  constructor
  · rintro ⟨h1, h2, _, h4⟩
    refine ⟨⟨fun o ho => h1 o (List.mem_append_left _ ho), h2⟩, h1 _ (List.mem_append_right _ (by simp)), fun i y hi hy e => ?_⟩
    refine h4 y.1 ?_ l[j].1 (by simp) e
    exact List.mem_map.2 ⟨y, by
      have := List.getElem?_take_of_lt (l := l) hi
      rw [hy] at this
      exact List.mem_of_getElem? this, rfl⟩
  · rintro ⟨⟨h1, h2⟩, h3, h4⟩
    refine ⟨fun o ho => ?_, h2, by simp, fun a ha b hb => ?_⟩
    · rcases List.mem_append.1 ho with ho | ho
      · exact h1 o ho
      · rw [List.mem_singleton.1 ho]; exact h3
    · obtain ⟨y, hy, rfl⟩ := List.mem_map.1 ha
      obtain ⟨z, hz, rfl⟩ := List.mem_map.1 hb
      rw [List.mem_singleton.1 hz]
      obtain ⟨i, hi⟩ := List.mem_iff_getElem?.1 hy
      have hlt := (List.getElem?_eq_some_iff.1 hi).1
      rw [List.length_take] at hlt
      rw [List.getElem?_take_of_lt (by omega)] at hi
      exact h4 i y (by omega) hi
theorem goodTo_all (l : List Ob) (j : Nat) (h : l.length ≤ j) : goodTo l j ↔ goodO l := by rw [goodTo, List.take_of_length_le h]
theorem goodTo_less (l : List Ob) (j : Nat) (h : ¬ goodTo l j) : ¬ goodO l := by
  intro hg
  refine h ⟨fun o ho => hg.1 o (List.mem_of_mem_take ho), ?_⟩
  rw [List.map_take]
  exact (List.take_sublist _ _).nodup hg.2
/-- Where the first option of a code is: the place itself, where none ahead has the code. -/
theorem opAt_self (l : List Op1) (j : Nat) (x : Op1) (h : l[j]? = some x) : opAt l x.code = (j : Int) ↔ ∀ i y, i < j → (obs l)[i]? = some y → y.1 ≠ x.code := by
  have key : ∀ (i : Nat) (y : Ob), (obs l)[i]? = some y → ∃ z : Op1, l[i]? = some z ∧ y = z.ob := by
    intro i y hy
    rw [obs_get] at hy
    rcases hz : l[i]? with _ | z
    · rw [hz] at hy; cases hy
    · rw [hz] at hy; injection hy with hy; exact ⟨z, rfl, hy.symm⟩
  rcases opAt_at l x.code with ⟨e1, e2⟩ | ⟨k, z, e1, e2, e3, e4, e5⟩
  · exact absurd rfl (e2 x (List.mem_of_getElem? h))
  · rw [e1]
    constructor
    · intro e i y hi hy
      obtain ⟨u, hu, rfl⟩ := key i y hy
      exact e5 i u (by omega) hu
    · intro hf
      rcases Nat.lt_trichotomy k j with h1 | h1 | h1
      · have := hf k z.ob h1 (by rw [obs_get, e2]; rfl)
        exact absurd e4 this
      · rw [h1]
      · exact absurd rfl (e5 j x h1 h)

end Go.Proofs.Ytjpmfmmgmlnanaa
