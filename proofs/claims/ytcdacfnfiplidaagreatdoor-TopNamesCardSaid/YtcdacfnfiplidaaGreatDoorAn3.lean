/-
  The reading of an address (package addr).
-/
import Derived.Test.YtcdacfnfiplidaaGreatDoorAn2
import Derived.Test.YtcdacfnfiplidaaGreatDoorBig
import Derived.Test.YtcdacfnfiplidaaGreatDoorZeros
namespace Go.Proofs.YtcdacfnfiplidaaGreatDoor
open Go.RowKit

def ad0 : Ad4 := ⟨0, 0, 0, 0⟩
def okN (ps : List (List UInt8)) (k : Nat) : Bool := (List.range k).all fun i => numOk (ps.getD i []) 255
theorem okN_iff {ps : List (List UInt8)} {k : Nat} : okN ps k = true ↔ ∀ i < k, numOk (ps.getD i []) 255 = true := by simp [okN, List.all_eq_true]
def parseL (ps : List (List UInt8)) : Option Ad4 :=
  if ps.length = 4 ∧ okN ps 4 = true then some ⟨bN (numV (ps.getD 0 [])), bN (numV (ps.getD 1 [])), bN (numV (ps.getD 2 [])), bN (numV (ps.getD 3 []))⟩ else none
def parseA (s : List UInt8) : Option Ad4 := parseL (cutB 46 s)
def parseV (s : List UInt8) : Ad4 × Int := match parseA s with
  | some a => (a, 0)
  | none => (ad0, 9)
def ParsePost (w : World) (s : List UInt8) (e : Ending) (w' : World) : Prop := e = .returned (.tuple #[adV (parseV s).1, .int .i64 (parseV s).2]) ∧ Below w.heap.size w w'
abbrev z4 : Array Value := #[.int .u8 0, .int .u8 0, .int .u8 0, .int .u8 0]
/-- The address behind some rounds. -/
def parC (ps : List (List UInt8)) (j : Nat) : Array Value := #[if 0 < j then .int .u8 (numV (ps.getD 0 [])) else .int .u8 0, if 1 < j then .int .u8 (numV (ps.getD 1 [])) else .int .u8 0, if 2 < j then .int .u8 (numV (ps.getD 2 [])) else .int .u8 0, if 3 < j then .int .u8 (numV (ps.getD 3 [])) else .int .u8 0]
theorem parC_size (ps : List (List UInt8)) (j : Nat) : (parC ps j).size = 4 := rfl
theorem parC_one (ps : List (List UInt8)) : (parC ps 4).all (·.oneCell') = true := by simp [parC, Value.oneCell']
theorem parC_zero (ps : List (List UInt8)) : parC ps 0 = z4 := by simp [parC]
theorem parC_step (ps : List (List UInt8)) (j : Nat) (h : j < 4) : (parC ps j).setIfInBounds j (.int .u8 (numV (ps.getD j []))) = parC ps (j + 1) := by
  rcases (show j = 0 ∨ j = 1 ∨ j = 2 ∨ j = 3 by omega) with rfl | rfl | rfl | rfl <;> simp [parC]
theorem parC_end (ps : List (List UInt8)) (h : ∀ i < 4, numOk (ps.getD i []) 255 = true) : parC ps 4 = adC ⟨bN (numV (ps.getD 0 [])), bN (numV (ps.getD 1 [])), bN (numV (ps.getD 2 [])), bN (numV (ps.getD 3 []))⟩ := by
  have e : ∀ i < 4, ((bN (numV (ps.getD i []))).toNat : Int) = numV (ps.getD i []) := by
    intro i hi
    have h1 := numOk_le (h i hi)
    rw [bN_val]
    omega
  simp only [parC, adC, e 0 (by decide), e 1 (by decide), e 2 (by decide), e 3 (by decide)]
  simp
theorem parse_no {s : List UInt8} (h : ¬ ((cutB 46 s).length = 4 ∧ okN (cutB 46 s) 4 = true)) : parseV s = (ad0, 9) := by simp only [parseV, parseA, parseL, if_neg h]
theorem parse_yes {s : List UInt8} (h : (cutB 46 s).length = 4 ∧ okN (cutB 46 s) 4 = true) :
    parseV s = (⟨bN (numV ((cutB 46 s).getD 0 [])), bN (numV ((cutB 46 s).getD 1 [])), bN (numV ((cutB 46 s).getD 2 [])), bN (numV ((cutB 46 s).getD 3 []))⟩, 0) := by simp only [parseV, parseA, parseL, if_pos h]

theorem SO.cell {w : World} {H n c b o : Nat} {l : List (List UInt8)} (h : SO w H (some ⟨b, o, none⟩) n c l) {k : Nat} {s : List UInt8} (hk : l[k]? = some s) : b < w.heap.size ∧ w.cell? ⟨b, o + k, none⟩ = some (.string (str s)) := by
  obtain ⟨b', o', e, hb, hc⟩ := h.at_ hk
  injection e with e
  injection e with e1 e2
  subst e1 e2
  exact ⟨hb, hc⟩
theorem splice4 (ps : List (List UInt8)) : spliceAt z4 0 (parC ps 4).toList = parC ps 4 := by simp [spliceAt, parC]
theorem getD_some {α : Type} {l : List α} {k : Nat} (d : α) (h : k < l.length) : l[k]? = some (l.getD k d) := by simp [List.getD, h]
theorem grown_cell {w w' : World} {k b o : Nat} {v : Value} (h : w.grownBy w' (some k)) (hb : b < w.heap.size) (hne : b ≠ k) (hc : w.cell? ⟨b, o, none⟩ = some v) : w'.cell? ⟨b, o, none⟩ = some v :=
  (World.cell?_of_block (w := w) (a := ⟨b, o, none⟩) (h.block b hb (by intro e; injection e with e; exact hne e))).trans hc

end Go.Proofs.YtcdacfnfiplidaaGreatDoor
