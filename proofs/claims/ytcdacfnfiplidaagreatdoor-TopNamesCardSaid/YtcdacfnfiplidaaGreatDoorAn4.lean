/-
  The reading of a device's address (package addr).
-/
import Derived.Test.YtcdacfnfiplidaaGreatDoorAn3
namespace Go.Proofs.YtcdacfnfiplidaaGreatDoor
open Go.RowKit

def hexD (r : Nat) : Option Nat := if 48 ≤ r ∧ r ≤ 57 then some (r - 48) else if 97 ≤ r ∧ r ≤ 102 then some (r - 97 + 10) else if 65 ≤ r ∧ r ≤ 70 then some (r - 65 + 10) else none
def hexN (r : Nat) : Nat := (hexD r).getD 0
theorem hexD_le {r d : Nat} (h : hexD r = some d) : d ≤ 15 := by
  unfold hexD at h
  repeat' split at h
  all_goals simp at h
  all_goals omega
theorem hexN_le (r : Nat) : hexN r ≤ 15 := by
  unfold hexN
  rcases h : hexD r with _ | d
  · simp
  · exact hexD_le h
theorem hexD_high {r : Nat} (h : 128 ≤ r) : hexD r = none := by
  unfold hexD
  rw [if_neg (by omega), if_neg (by omega), if_neg (by omega)]

/-- Hex digits, read on. -/
def pairGo : Nat → List UInt8 → Option Nat
  | v, [] => some v
  | v, b :: r => match hexD b.toNat with
    | some d => pairGo (v * 16 % 256 + d) r
    | none => none
def pairV (s : List UInt8) : Nat := (pairGo 0 s).getD 0
def pairOk (s : List UInt8) : Bool := (pairGo 0 s).isSome && s.length == 2
theorem pairGo_le : ∀ (l : List UInt8) (n : Nat) (v : Nat), n ≤ 255 → pairGo n l = some v → v ≤ 255
  | [], n, v, h, e => by simp [pairGo] at e; omega
  | b :: r, n, v, h, e => by
    rw [pairGo] at e
    split at e
    · rename_i d hd
      have := hexD_le hd
      exact pairGo_le r _ v (by omega) e
    · cases e
theorem pairV_le (s : List UInt8) : pairV s ≤ 255 := by
  unfold pairV
  rcases h : pairGo 0 s with _ | v
  · simp
  · exact pairGo_le s 0 v (by omega) h
def PairPost (w : World) (s : List UInt8) (e : Ending) (w' : World) : Prop := e = .returned (.tuple #[.int .u8 (pairV s), .bool (pairOk s)]) ∧ Below w.heap.size w w'
theorem pair_none {s : List UInt8} (h : pairGo 0 s = none) : pairV s = 0 ∧ pairOk s = false := by simp [pairV, pairOk, h]
theorem pair_some {s : List UInt8} {n : Nat} (h : pairGo 0 s = some n) : pairV s = n ∧ pairOk s = (s.length == 2) := by simp [pairV, pairOk, h]
theorem or8 (v d : Nat) (hd : d ≤ 15) : bits BinOp.or IntKind.u8 ((v : Int) * 16 % 256) (d : Int) = ((v * 16 % 256 + d : Nat) : Int) := by
  have e1 : (v : Int) * 16 % 256 = ((v * 16 % 256 : Nat) : Int) := by omega
  rw [e1, u8_or_nat _ _ (by omega) (by omega), nat_join 4 _ d (by omega) (by omega)]

def okM (ps : List (List UInt8)) (k : Nat) : Bool := (List.range k).all fun i => pairOk (ps.getD i [])
theorem okM_iff {ps : List (List UInt8)} {k : Nat} : okM ps k = true ↔ ∀ i < k, pairOk (ps.getD i []) = true := by simp [okM, List.all_eq_true]
def macL (ps : List (List UInt8)) : Mac6 := ⟨bN (pairV (ps.getD 0 [])), bN (pairV (ps.getD 1 [])), bN (pairV (ps.getD 2 [])), bN (pairV (ps.getD 3 [])), bN (pairV (ps.getD 4 [])), bN (pairV (ps.getD 5 []))⟩
def parseM (s : List UInt8) : Option Mac6 := if (cutB 58 s).length = 6 ∧ okM (cutB 58 s) 6 = true then some (macL (cutB 58 s)) else none
def mac0 : Mac6 := ⟨0, 0, 0, 0, 0, 0⟩
def parseMV (s : List UInt8) : Mac6 × Int := match parseM s with
  | some a => (a, 0)
  | none => (mac0, 9)
def ParseMPost (w : World) (s : List UInt8) (e : Ending) (w' : World) : Prop := e = .returned (.tuple #[macV (parseMV s).1, .int .i64 (parseMV s).2]) ∧ Below w.heap.size w w'
abbrev z6 : Array Value := #[.int .u8 0, .int .u8 0, .int .u8 0, .int .u8 0, .int .u8 0, .int .u8 0]
def mpC (ps : List (List UInt8)) (j : Nat) : Array Value := #[if 0 < j then .int .u8 (pairV (ps.getD 0 [])) else .int .u8 0, if 1 < j then .int .u8 (pairV (ps.getD 1 [])) else .int .u8 0, if 2 < j then .int .u8 (pairV (ps.getD 2 [])) else .int .u8 0,
  if 3 < j then .int .u8 (pairV (ps.getD 3 [])) else .int .u8 0, if 4 < j then .int .u8 (pairV (ps.getD 4 [])) else .int .u8 0, if 5 < j then .int .u8 (pairV (ps.getD 5 [])) else .int .u8 0]
theorem mpC_size (ps : List (List UInt8)) (j : Nat) : (mpC ps j).size = 6 := rfl
theorem mpC_one (ps : List (List UInt8)) : (mpC ps 6).all (·.oneCell') = true := by simp [mpC, Value.oneCell']
theorem mpC_zero (ps : List (List UInt8)) : mpC ps 0 = z6 := by simp [mpC]
theorem mpC_step (ps : List (List UInt8)) (j : Nat) (h : j < 6) : (mpC ps j).setIfInBounds j (.int .u8 (pairV (ps.getD j []))) = mpC ps (j + 1) := by
  rcases (show j = 0 ∨ j = 1 ∨ j = 2 ∨ j = 3 ∨ j = 4 ∨ j = 5 by omega) with rfl | rfl | rfl | rfl | rfl | rfl <;> simp [mpC]
theorem mpC_end (ps : List (List UInt8)) : .agg (mpC ps 6) = macV (macL ps) := by
  have e : ∀ i, ((bN (pairV (ps.getD i []))).toNat : Int) = pairV (ps.getD i []) := by
    intro i
    have h1 := pairV_le (ps.getD i [])
    rw [bN_val]
    omega
  simp only [mpC, macL, macV, e 0, e 1, e 2, e 3, e 4, e 5]
  simp
theorem parseM_no {s : List UInt8} (h : ¬ ((cutB 58 s).length = 6 ∧ okM (cutB 58 s) 6 = true)) : parseMV s = (mac0, 9) := by simp only [parseMV, parseM, if_neg h]
theorem parseM_yes {s : List UInt8} (h : (cutB 58 s).length = 6 ∧ okM (cutB 58 s) 6 = true) : parseMV s = (macL (cutB 58 s), 0) := by simp only [parseMV, parseM, if_pos h]
theorem splice6 (ps : List (List UInt8)) : spliceAt z6 0 (mpC ps 6).toList = mpC ps 6 := by simp [spliceAt, mpC]

end Go.Proofs.YtcdacfnfiplidaaGreatDoor
