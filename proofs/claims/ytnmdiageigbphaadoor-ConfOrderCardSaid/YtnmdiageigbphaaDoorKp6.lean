/-
  conf: the values of a line.
-/
import Derived.Test.YtnmdiageigbphaaDoorKp5
namespace Go.Proofs.YtnmdiageigbphaaDoor
open Go.RowKit

def IO (w : World) (H : Nat) (A : Option Addr) (n c : Nat) (l : List Value) : Prop := n = l.length ∧ w.ownsRow H 20 1 (.slice A n c) n l
theorem infoAny : (Tryd.prog.info? 20).map (fun i => (i.zero, i.size, i.bytes)) = some (some .nilIface, 1, 16) := by kernel_rfl
section
variable {w w' : World} {H n c : Nat} {A : Option Addr} {l : List Value}
theorem IO.alloc (h : IO w H A n c l) (o : Obj) : IO (w.alloc o) H A n c l := ⟨h.1, h.2.alloc o⟩
theorem IO.row (h : IO w H A n c l) : Row w w.heap.size A l := Row.of_own h.2
theorem IO.at_ (h : IO w H A n c l) {k : Nat} {v : Value} (hk : l[k]? = some v) : ∃ b o, A = some ⟨b, o, none⟩ ∧ b < w.heap.size ∧ w.cell? ⟨b, o + k, none⟩ = some v := h.row.at_ hk
theorem IO.below (h : IO w H A n c l) (hb : Below w.heap.size w w') : IO w' H A n c l := by
  refine ⟨h.1, h.2.kept (grown_of_below none hb) ?_⟩
  rcases (Value.slice A n c).ownBlock with _ | k
  · exact .inl rfl
  · exact .inr (by simp)
theorem IO.iterAt (h : IO w H A n c l) {k : Nat} {s : ByteArray} {pos : Nat} (hk : w.heap[k]? = some (.stringIter s pos)) (pos' : Nat) : IO (w.iterAt k s pos') H A n c l := by
  refine ⟨h.1, h.2.1, ?_⟩
  rcases h.2.2 with hn | ⟨g, cap, cur, hv, hb, hg, rest⟩
  · exact .inl hn
  · refine .inr ⟨g, cap, cur, hv, hb, ?_, rest⟩
    rw [Lib.iterAt_other]
    · exact hg
    · rintro rfl
      rw [hk] at hg
      cases hg
theorem IO.grow_ne (h : IO w H A n c l) {k : Nat} {s : ByteArray} {pos : Nat} (hk : w.heap[k]? = some (.stringIter s pos)) (hg : w.grownBy w' (Value.slice A n c).ownBlock) : w'.heap[k]? = some (.stringIter s pos) := by
  refine (hg.block k (heap_lt hk) ?_).trans hk
  intro e
  rcases h.2.2 with ⟨hv, _⟩ | ⟨g, cap, cur, hv, hb, hgg, _⟩
  · injection hv with e1 _ _
    subst e1
    simp [Value.ownBlock] at e
  · injection hv with e1 _ _
    subst e1
    simp [Value.ownBlock] at e
    subst e
    rw [hk] at hgg
    cases hgg
end
/-- append(own row of interface values, one). -/
theorem appI {w : World} {ops : Array Oper} {rest : List Oper} {o : Oper} {a : Act} {Q : Exit → Act → World → Prop} (hgd : o.guard = none) (s x : Operand)
    (ho : o.op = .call { callee := .builtin .append, args := #[s, x], argTypes := #[81, 81] })
    (H : Nat) (A : Option Addr) (n c : Nat) (l : List Value) (hs : a.eval s = .slice A n c) (hown : IO w H A n c l)
    (g c2 : Nat) (y : Value) (hy1 : y.oneCell' = true) (hx : a.eval x = .slice (some ⟨g, 0, none⟩) 1 c2) (hr : w.cell? ⟨g, 0, none⟩ = some y) (hgl : g < w.heap.size)
    (hlen : l.length ≤ 1000) (hbase : H ≤ w.heap.size)
    (h : ∀ A' n' c' w', IO w' H A' n' c' (l ++ [y]) → Below H w w' → w.grownBy w' (Value.slice A n c).ownBlock → wpList Tryd.prog ops Q rest (a.put o.dst (.slice A' n' c')) w') : wpList Tryd.prog ops Q (o :: rest) a w := by
  obtain ⟨i0, hi, hz0, hz1, hz2⟩ := info_parts infoAny
  obtain ⟨rfl, hown⟩ := hown
  refine wpList_app w hgd s x 81 ho 20 i0 .nilIface 16 Tryd.underlying81 hi hz0 hz1 hz2 rfl H _ _ _ hs hown w.heap.size (some ⟨g, 0, none⟩) 1 c2 [y] hx (.inr ⟨g, 0, rfl, hgl, ?_⟩) rfl (by simpa using hy1) (by unfold maxLen; omega) (by omega) hbase ?_
  · intro j u hj
    match j, hj with
    | 0, hj => simp at hj; subst hj; exact hr
  · intro A' c' w' ho' hg _
    exact h A' (l.length + 1) c' w' ⟨by simp, ho'⟩ ((Below.refl H w).grown hg hbase fun k hk => (hown.lt k hk).1) hg

def valsGo : List UInt8 → List (List UInt8) → Option (List Vl)
  | [], _ => some []
  | _ :: _, [] => none
  | k :: ks, x :: xs => match valK k x with
    | none => none
    | some v => (valsGo ks xs).map (v :: ·)
def valuesV (name text : List UInt8) : Option (List Vl) :=
  if kindsV name = [] ∨ (words text).length ≠ (kindsV name).length then none else valsGo (kindsV name) (words text)
theorem kinds_are (n : List UInt8) : ∀ k ∈ kindsV n, isKind k := by
  unfold kindsV isKind
  repeat' split
  all_goals decide
theorem kinds_asc (n : List UInt8) : asc (kindsV n) := fun k hk => by
  rcases kinds_are n k hk with rfl | rfl | rfl | rfl | rfl <;> decide
theorem kinds_len (n : List UInt8) : (kindsV n).length ≤ 4 := by
  unfold kindsV
  repeat' split
  all_goals decide
theorem words_mem (s : List UInt8) : ∀ x ∈ words s, x.length ≤ s.length := by
  suffices h : ∀ (s w : List UInt8), ∀ x ∈ wordsW w s, x.length ≤ w.length + s.length by
    intro x hx
    have := h s [] x hx
    simpa using this
  intro s
  induction s with
  | nil =>
    intro w x hx
    rw [wordsW] at hx
    split at hx
    · simp at hx
    · simp at hx; subst hx; simp
  | cons b r ih =>
    intro w x hx
    rw [wordsW] at hx
    split at hx
    · split at hx
      · have := ih [] x hx
        simp at this ⊢
        omega
      · rcases List.mem_cons.1 hx with rfl | hx
        · simp
        · have := ih [] x hx
          simp at this ⊢
          omega
    · have := ih (w ++ [b]) x hx
      simp at this ⊢
      omega
def VsP (w : World) (v : Option (List Vl)) (e : Ending) (w' : World) : Prop :=
  (match v with
    | some l => ∃ A n c, e = .returned (.tuple #[.slice A n c, .bool true]) ∧ IO w' w.heap.size A n c (l.map Vl.val)
    | none => e = .returned (.tuple #[.slice none 0 0, .bool false])) ∧ Below w.heap.size w w'
theorem val_one (v : Vl) : v.val.oneCell' = true := by cases v <;> rfl
end Go.Proofs.YtnmdiageigbphaaDoor
