/-
  conf: the names seen (a map from strings to bools that the call has made).
-/
import Derived.Test.YtnmdiageigbphaaDoorKp9
import Derived.Maps.OwnSet
namespace Go.Proofs.YtnmdiageigbphaaDoor
open Go.RowKit
open Go.Maps (string_keyed)

/-- Block b is a map in which these names are true, at most N. -/
def MB (w : World) (b N : Nat) (S : List (List UInt8)) : Prop :=
  ∃ D : DataW Unit, w.ownsMap Tryd.prog 9 (plainElem Tryd.prog 4) b N D ∧ ∀ s : List UInt8, D.atKey (.string s) (.lit (.bool false)) = .lit (.bool (decide (s ∈ S)))
theorem MB.made (w : World) : MB (w.alloc (.map #[] 0)) w.heap.size 0 [] := ⟨.map [], World.ownsMap_made w _ _ _, fun s => by simp [DataW.atKey]⟩
theorem MB.below {w w' : World} {b N : Nat} {S : List (List UInt8)} (h : MB w b N S) (hb : Below w.heap.size w w') : MB w' b N S :=
  let ⟨D, h1, h2⟩ := h
  ⟨D, h1.kept (grown_of_below none hb) (by simp), h2⟩
theorem MB.grown {w w' : World} {b N g : Nat} {S : List (List UInt8)} (h : MB w b N S) (hg : w.grownBy w' (some g)) (hne : b ≠ g) : MB w' b N S :=
  let ⟨D, h1, h2⟩ := h
  ⟨D, h1.kept hg (by simpa using hne), h2⟩
theorem MB.lt {w : World} {b N : Nat} {S : List (List UInt8)} (h : MB w b N S) : b < w.heap.size := let ⟨_, h1, _⟩ := h; h1.lt
theorem MB.put {w w' : World} {b N N' : Nat} {S : List (List UInt8)} {D : DataW Unit} (h1 : w.ownsMap Tryd.prog 9 (plainElem Tryd.prog 4) b N D) (h2 : ∀ s : List UInt8, D.atKey (.string s) (.lit (.bool false)) = .lit (.bool (decide (s ∈ S)))) (s : List UInt8)
    (h : w'.ownsMap Tryd.prog 9 (plainElem Tryd.prog 4) b N' (D.put (.string s) (.lit (.bool true)))) : MB w' b N' (s :: S) := by
  refine ⟨_, h, fun x => ?_⟩
  by_cases hx : x = s
  · subst hx
    rw [Maps.atKey_put_same (k := .string x) h1.isMap trivial]
    simp
  · rw [Maps.atKey_put_other (by intro e; injection e with e; exact hx e), h2]
    simp [hx]
set_option maxRecDepth 100000 in
theorem MB.look {w : World} {b N : Nat} {S : List (List UInt8)} (h : MB w b N S) (s : List UInt8) (hs : s.length ≤ 1000000) :
    (Instr.lookup 60 (.map (some b)) (.string (str s)) false).run Tryd.prog w = .ok (.bool (decide (s ∈ S))) w := by
  obtain ⟨D, h1, h2⟩ := h
  obtain ⟨v, ps, hrun, hv⟩ := h1.lookup (string_keyed Tryd.underlying9) Tryd.underlying60 (Tryd.zeroValue4 w) (plainElem_bool Tryd.underlying4 false)
    (_root_.Go.WideMaps.keyOf_string_mk (s := str s) Tryd.underlying9 (by rw [str_size]; unfold maxLen; omega))
  have h3 : D.atKey (.string (str s).data.toList) (.lit (.bool false)) = .lit (.bool (decide (s ∈ S))) := h2 s
  rw [h3] at hv
  have hb : Tryd.prog.underlying 4 = some .bool := Tryd.underlying4
  unfold plainElem at hv
  rw [hb] at hv
  cases v <;> simp at hv
  rw [hrun, hv.1]
end Go.Proofs.YtnmdiageigbphaaDoor
