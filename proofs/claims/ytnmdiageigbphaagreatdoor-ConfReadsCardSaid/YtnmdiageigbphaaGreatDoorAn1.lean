/-
  A string's runes by their bytes; the reading of a number (package addr).
-/
import Derived.Test.YtnmdiageigbphaaGreatDoorZeros
import Derived.Lib.TrimUEq
import Derived.Lib.OthersKept
import Derived.Laws.RangeAny
namespace Go.Proofs.YtnmdiageigbphaaGreatDoor
open Go.RowKit

/-- One rune of a string: where its first byte is below 128: that byte; else none of its bytes is below 128, nor is it. -/
theorem dec_step (l : List UInt8) (pos : Nat) (h : pos < l.length) : ∃ r k : Nat, Utf8.decode (str l) pos = (r, k) ∧ 1 ≤ k ∧ pos + k ≤ l.length ∧ r ≤ 1114111 ∧
    (((l.getD pos 0).toNat < 128 ∧ r = (l.getD pos 0).toNat ∧ k = 1) ∨ (128 ≤ (l.getD pos 0).toNat ∧ 128 ≤ r ∧ ∀ j, pos ≤ j → j < pos + k → 128 ≤ (l.getD j 0).toNat)) := by
  have e := Lib.decode_N (str l) pos
  rw [str_data] at e
  have hr := Lib.rune_le (str l) pos
  obtain ⟨b0, hb0⟩ : ∃ b0, (l.getD pos 0).toNat = b0 := ⟨_, rfl⟩
  obtain ⟨b1, hb1⟩ : ∃ b1, (l.getD (pos + 1) 0).toNat = b1 := ⟨_, rfl⟩
  obtain ⟨b2, hb2⟩ : ∃ b2, (l.getD (pos + 2) 0).toNat = b2 := ⟨_, rfl⟩
  obtain ⟨b3, hb3⟩ : ∃ b3, (l.getD (pos + 3) 0).toNat = b3 := ⟨_, rfl⟩
  have hl0 := (l.getD pos 0).toNat_lt
  rw [hb0, hb1, hb2, hb3] at e
  rw [e] at hr
  rw [hb0] at hl0 ⊢
  have one : ∀ j, pos ≤ j → j < pos + 1 → (l.getD j 0).toNat = b0 := by
    intro j h1 h2
    obtain rfl : j = pos := by omega
    exact hb0
  refine ⟨(Lib.decodeN (l.length - pos) b0 b1 b2 b3).1, (Lib.decodeN (l.length - pos) b0 b1 b2 b3).2, e, ?_⟩
  unfold Lib.decodeN at hr ⊢
  split
  · exact ⟨by simp, by simp; omega, by simp at hr ⊢; omega, .inl ⟨by omega, rfl, rfl⟩⟩
  · rename_i hn
    refine ⟨?_, ?_, by rw [if_neg hn] at hr; exact hr, .inr ⟨by omega, ?_, ?_⟩⟩
    · repeat' split
      all_goals simp
    · repeat' split
      all_goals simp only
      all_goals omega
    · repeat' split
      all_goals simp only
      all_goals omega
    · intro j h1 h2
      have hj : j = pos ∨ j = pos + 1 ∨ j = pos + 2 ∨ j = pos + 3 ∨ pos + 4 ≤ j := by omega
      rcases hj with rfl | rfl | rfl | rfl | hj
      · omega
      · rw [hb1]
        revert h2
        repeat' split
        all_goals simp only
        all_goals omega
      · rw [hb2]
        revert h2
        repeat' split
        all_goals simp only
        all_goals omega
      · rw [hb3]
        revert h2
        repeat' split
        all_goals simp only
        all_goals omega
      · revert h2
        repeat' split
        all_goals simp only
        all_goals omega

/-- Digits, read from n on; whether it is the first. -/
def numGo : Nat → Bool → List UInt8 → Option Nat
  | n, _, [] => some n
  | n, first, b :: r => if b.toNat < 48 ∨ 57 < b.toNat ∨ (first = false ∧ n = 0) ∨ 1000 < n then none else numGo (10 * n + (b.toNat - 48)) false r
def numV (s : List UInt8) : Nat := (numGo 0 true s).getD 0
def numOk (s : List UInt8) (most : Nat) : Bool := (numGo 0 true s).isSome && !s.isEmpty && decide (numV s ≤ most)
theorem numOk_le {s : List UInt8} {most : Nat} (h : numOk s most = true) : numV s ≤ most := by
  simp [numOk] at h
  exact h.2
theorem numGo_le : ∀ (l : List UInt8) (n : Nat) (f : Bool) (v : Nat), n ≤ 10009 → numGo n f l = some v → v ≤ 10009
  | [], n, f, v, h, e => by simp [numGo] at e; omega
  | b :: r, n, f, v, h, e => by
    rw [numGo] at e
    split at e
    · cases e
    · have := b.toNat_lt
      exact numGo_le r _ false v (by omega) e
theorem numV_le (s : List UInt8) : numV s ≤ 10009 := by
  unfold numV
  rcases h : numGo 0 true s with _ | v
  · simp
  · exact numGo_le s 0 true v (by omega) h
theorem drop_get (l : List UInt8) (pos : Nat) (h : pos < l.length) : l.drop pos = l.getD pos 0 :: l.drop (pos + 1) := by
  rw [List.drop_eq_getElem_cons h]
  simp [List.getD, h]
def NrPost (w : World) (s : List UInt8) (most : Nat) (e : Ending) (w' : World) : Prop :=
  e = .returned (.tuple #[.int .i64 (numV s), .bool (numOk s most)]) ∧ Below w.heap.size w w'
theorem below_iter (w : World) (s : ByteArray) (pos : Nat) : Below w.heap.size w (w.iter s pos) := (Below.refl _ w).alloc (Nat.le_refl _) _

theorem num_none {s : List UInt8} {most : Nat} (h : numGo 0 true s = none) : numV s = 0 ∧ numOk s most = false := by simp [numV, numOk, h]
theorem num_some {s : List UInt8} {most n : Nat} (h : numGo 0 true s = some n) : numV s = n ∧ numOk s most = (!s.isEmpty && decide (n ≤ most)) := by simp [numV, numOk, h]

set_option maxRecDepth 100000 in
set_option maxHeartbeats 2000000 in
theorem num_any (w : World) (s : List UInt8) (most : Nat) (hl : s.length ≤ 1099511627776) (hm : most ≤ 1000) :
    Calls Tryz.prog 131 #[.string (str s), .int .i64 most] w (NrPost w s most) := by
  go_enter Tryz.func131, Tryz.ntmps131
  go_wp2_with fail
  go_loopw [6] (fun v wr => ∃ n pos : Nat, v = .int .i64 n ∧ pos ≤ s.length ∧ n ≤ 10009 ∧ numGo 0 true s = numGo n (pos == 0) (s.drop pos) ∧ wr = w.iter (str s) pos) (fun _ wr => s.length - wr.iterPos w.heap.size)
  case atStart => exact ⟨0, 0, rfl, Nat.zero_le _, Nat.zero_le _, rfl, rfl⟩
  case round =>
    obtain ⟨n, pos, rfl, hp, hn, hg, rfl⟩ := hrel
    have HG := Lib.hid hg
    clear hg
    by_cases hlt : pos < s.length
    · obtain ⟨r, k, hd, hk1, hk2, hr, hrk⟩ := dec_step s pos hlt
      have hnx : ∀ ty, (Instr.next (.pointer (some ⟨w.heap.size, 0, none⟩)) true ty).run Tryz.prog (w.iter (str s) pos) = .ok (.tuple #[.bool true, .int .i64 pos, .int .i32 r]) (w.iter (str s) (pos + k)) := by
        intro ty
        have := run_next_any (P := Tryz.prog) w (str s) pos ty hlt
        rw [hd] at this
        exact this
      have HE := Lib.hid (drop_get s pos hlt)
      have HRK := Lib.hid hrk
      clear hrk hd
      have bad : (r < 48 ∨ 57 < r ∨ (0 < pos ∧ n = 0) ∨ 1000 < n) → numGo 0 true s = none := by
        intro hbad
        rw [HG.out, HE.out, numGo, if_pos]
        rcases HRK.out with ⟨h1, h2, h3⟩ | ⟨h1, h2, h3⟩
        · rcases hbad with h | h | h | h
          · exact .inl (by omega)
          · exact .inr (.inl (by omega))
          · exact .inr (.inr (.inl ⟨by rw [beq_eq_false_iff_ne]; omega, h.2⟩))
          · exact .inr (.inr (.inr h))
        · exact .inr (.inl (by omega))
      have good : 48 ≤ r → r ≤ 57 → ¬ (0 < pos ∧ n = 0) → ¬ 1000 < n → k = 1 ∧ numGo 0 true s = numGo (10 * n + (r - 48)) false (s.drop (pos + 1)) := by
        intro g1 g2 g3 g4
        rcases HRK.out with ⟨h1, h2, h3⟩ | ⟨h1, h2, h3⟩
        · refine ⟨h3, ?_⟩
          rw [HG.out, HE.out, numGo, if_neg, ← h2]
          rintro (h | h | h | h)
          · omega
          · omega
          · have h5 := h.1
            rw [beq_eq_false_iff_ne] at h5
            exact g3 ⟨by omega, h.2⟩
          · omega
        · omega
      have HBAD := Lib.hid bad
      have HGOOD := Lib.hid good
      clear bad good
      by_cases c1 : r < 48
      · have HB := Lib.hid (num_none (most := most) (HBAD.out (.inl c1)))
        have d1 : decide ((r : Int) < 48) = true := decide_eq_true (by omega)
        go_wp2_with fail
        go_ret2
        exact ⟨by rw [HB.out.1, HB.out.2]; rfl, below_iter w _ _⟩
      have d1 : decide ((r : Int) < 48) = false := decide_eq_false (by omega)
      by_cases c2 : 57 < r
      · have HB := Lib.hid (num_none (most := most) (HBAD.out (.inr (.inl c2))))
        have d2 : decide (57 < (r : Int)) = true := decide_eq_true (by omega)
        go_wp2_with fail
        go_ret2
        exact ⟨by rw [HB.out.1, HB.out.2]; rfl, below_iter w _ _⟩
      have d2 : decide (57 < (r : Int)) = false := decide_eq_false (by omega)
      by_cases c3 : 0 < pos ∧ n = 0
      · have HB := Lib.hid (num_none (most := most) (HBAD.out (.inr (.inr (.inl c3)))))
        have d3 : decide (0 < (pos : Int)) = true := decide_eq_true (by omega)
        have d4 : ((n : Int) == 0) = true := by rw [beq_iff_eq]; omega
        go_wp2_with fail
        go_ret2
        exact ⟨by rw [HB.out.1, HB.out.2]; rfl, below_iter w _ _⟩
      rcases Nat.eq_zero_or_pos pos with c4 | c4
      case' inl =>
        subst c4
        have d3 : decide (0 < ((0 : Nat) : Int)) = false := rfl
      case' inr =>
        have d3 : decide (0 < (pos : Int)) = true := decide_eq_true (by omega)
        have d4 : ((n : Int) == 0) = false := by rw [beq_eq_false_iff_ne]; omega
      all_goals
        by_cases c5 : 1000 < n
        · have HB := Lib.hid (num_none (most := most) (HBAD.out (.inr (.inr (.inr c5)))))
          have d5 : decide (1000 < (n : Int)) = true := decide_eq_true (by omega)
          go_wp2_with fail
          go_ret2
          exact ⟨by rw [HB.out.1, HB.out.2]; rfl, below_iter w _ _⟩
        · have d5 : decide (1000 < (n : Int)) = false := decide_eq_false (by omega)
          have HB := Lib.hid (HGOOD.out (by omega) (by omega) c3 c5)
          obtain rfl : k = 1 := HB.out.1
          go_wp2_with fail
          go_roundw
          case rel => exact ⟨10 * n + (r - 48), _, by congr 1; omega, by omega, by omega, by exact HB.out.2, rfl⟩
          case measure => simp; omega
    · have hnx : ∀ ty, (Instr.next (.pointer (some ⟨w.heap.size, 0, none⟩)) true ty).run Tryz.prog (w.iter (str s) pos) = .ok (.tuple #[.bool false]) (w.iter (str s) pos) := fun ty => run_next_end w (str s) pos ty hlt
      have HB := Lib.hid (num_some (most := most) (show numGo 0 true s = some n by rw [HG.out, List.drop_eq_nil_of_le (by omega)]; rfl))
      by_cases hs : s = []
      · have hts : (str s).toList = [] := by rw [toList_str, hs]
        have HS := Lib.hid hs
        clear hs
        go_wp2_with fail
        go_ret2
        exact ⟨by rw [HB.out.1, HB.out.2, HS.out]; rfl, below_iter w _ _⟩
      · have hts : ¬ (str s).toList = [] := by rw [toList_str]; exact hs
        have HS := Lib.hid hs
        clear hs
        go_wp2_with fail
        go_ret2
        refine ⟨?_, below_iter w _ _⟩
        have := HS.out
        rw [HB.out.1, HB.out.2, toList_str]
        rfl
end Go.Proofs.YtnmdiageigbphaaGreatDoor
