/-
  A string's runes by their bytes; the reading of a number (package addr).
-/
import Derived.Test.YtcdacfnfiplidaaGreatDoorZeros
import Derived.Lib.TrimUEq
import Derived.Lib.OthersKept
import Derived.Laws.RangeAny
namespace Go.Proofs.YtcdacfnfiplidaaGreatDoor
open Go.RowKit

/-- One rune of a string: where its first byte is below 128: that byte; else none of its bytes is below 128, nor is it. -/
theorem dec_step (l : List UInt8) (pos : Nat) (h : pos < l.length) : ∃ r k : Nat, Utf8.decode (str l) pos = (r, k) ∧ 1 ≤ k ∧ pos + k ≤ l.length ∧ r ≤ 1114111 ∧
    (((l.getD pos 0).toNat < 128 ∧ r = (l.getD pos 0).toNat ∧ k = 1) ∨ (128 ≤ (l.getD pos 0).toNat ∧ 128 ≤ r ∧ ∀ j, pos ≤ j → j < pos + k → 128 ≤ (l.getD j 0).toNat)) := by
  have e := Lib.decode_N (str l) pos
  rw [str_data] at e
  have hr := Lib.rune_le (str l) pos
  obtain ⟨b0, hb0⟩ : ∃ b0, (l.getD pos 0).toNat = b0 := ⟨_, rfl⟩
  obtain ⟨b1, hb1⟩ : ∃ b1, (l.getD (pos + 1) 0).toNat = b1 := ⟨_, rfl⟩
  obtain ⟨b2, hb2⟩ : ∃ b2, (l.getD (pos + 2) 0).toNat = b2 := ⟨_, rfl⟩
  obtain ⟨b3, hb3⟩ : ∃ b3, (l.getD (pos + 3) 0).toNat = b3 := ⟨_, rfl⟩
  have hl0 := (l.getD pos 0).toNat_lt
  rw [hb0, hb1, hb2, hb3] at e
  rw [e] at hr
  rw [hb0] at hl0 ⊢
  have one : ∀ j, pos ≤ j → j < pos + 1 → (l.getD j 0).toNat = b0 := by
    intro j h1 h2
    obtain rfl : j = pos := by omega
    exact hb0
  refine ⟨(Lib.decodeN (l.length - pos) b0 b1 b2 b3).1, (Lib.decodeN (l.length - pos) b0 b1 b2 b3).2, e, ?_⟩
  unfold Lib.decodeN at hr ⊢
  split
  · exact ⟨by simp, by simp; omega, by simp at hr ⊢; omega, .inl ⟨by omega, rfl, rfl⟩⟩
  · rename_i hn
    refine ⟨?_, ?_, by rw [if_neg hn] at hr; exact hr, .inr ⟨by omega, ?_, ?_⟩⟩
    · repeat' split
      all_goals simp
    · repeat' split
      all_goals simp only
      all_goals omega
    · repeat' split
      all_goals simp only
      all_goals omega
    · intro j h1 h2
      have hj : j = pos ∨ j = pos + 1 ∨ j = pos + 2 ∨ j = pos + 3 ∨ pos + 4 ≤ j := by omega
      rcases hj with rfl | rfl | rfl | rfl | hj
      · omega
      · rw [hb1]
        revert h2
        repeat' split
        all_goals simp only
        all_goals omega
      · rw [hb2]
        revert h2
        repeat' split
        all_goals simp only
        all_goals omega
      · rw [hb3]
        revert h2
        repeat' split
        all_goals simp only
        all_goals omega
      · revert h2
        repeat' split
        all_goals simp only
        all_goals omega

/-- Digits, read from n on; whether it is the first. -/
def numGo : Nat → Bool → List UInt8 → Option Nat
  | n, _, [] => some n
  | n, first, b :: r => if b.toNat < 48 ∨ 57 < b.toNat ∨ (first = false ∧ n = 0) ∨ 1000 < n then none else numGo (10 * n + (b.toNat - 48)) false r
def numV (s : List UInt8) : Nat := (numGo 0 true s).getD 0
def numOk (s : List UInt8) (most : Nat) : Bool := (numGo 0 true s).isSome && !s.isEmpty && decide (numV s ≤ most)
theorem numOk_le {s : List UInt8} {most : Nat} (h : numOk s most = true) : numV s ≤ most := by
  simp [numOk] at h
  exact h.2
theorem numGo_le : ∀ (l : List UInt8) (n : Nat) (f : Bool) (v : Nat), n ≤ 10009 → numGo n f l = some v → v ≤ 10009
  | [], n, f, v, h, e => by simp [numGo] at e; omega
  | b :: r, n, f, v, h, e => by
    rw [numGo] at e
    split at e
    · cases e
    · have := b.toNat_lt
      exact numGo_le r _ false v (by omega) e
theorem numV_le (s : List UInt8) : numV s ≤ 10009 := by
  unfold numV
  rcases h : numGo 0 true s with _ | v
  · simp
  · exact numGo_le s 0 true v (by omega) h
theorem drop_get (l : List UInt8) (pos : Nat) (h : pos < l.length) : l.drop pos = l.getD pos 0 :: l.drop (pos + 1) := by
  rw [List.drop_eq_getElem_cons h]
  simp [List.getD, h]
def NrPost (w : World) (s : List UInt8) (most : Nat) (e : Ending) (w' : World) : Prop :=
  e = .returned (.tuple #[.int .i64 (numV s), .bool (numOk s most)]) ∧ Below w.heap.size w w'
theorem below_iter (w : World) (s : ByteArray) (pos : Nat) : Below w.heap.size w (w.iter s pos) := (Below.refl _ w).alloc (Nat.le_refl _) _

theorem num_none {s : List UInt8} {most : Nat} (h : numGo 0 true s = none) : numV s = 0 ∧ numOk s most = false := by simp [numV, numOk, h]
theorem num_some {s : List UInt8} {most n : Nat} (h : numGo 0 true s = some n) : numV s = n ∧ numOk s most = (!s.isEmpty && decide (n ≤ most)) := by simp [numV, numOk, h]

end Go.Proofs.YtcdacfnfiplidaaGreatDoor
