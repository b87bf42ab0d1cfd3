/-
  conf: a number read, words of a text (plain), and the walk of number.
-/
import Derived.Test.YtnmdiageigbphaaDoorKp0
import Derived.Laws.RangeAny
namespace Go.Proofs.YtnmdiageigbphaaDoor
open Go.RowKit

def digs (l : List UInt8) : Prop := ∀ b ∈ l, 48 ≤ b.toNat ∧ b.toNat ≤ 57
def valF (n : Nat) (l : List UInt8) : Nat := l.foldl (fun n b => 10 * n + (b.toNat - 48)) n
theorem valF_snoc (l : List UInt8) (b : UInt8) : valF 0 (l ++ [b]) = 10 * valF 0 l + (b.toNat - 48) := by simp [valF]
theorem valF_lt : ∀ (l : List UInt8) (n : Nat), digs l → valF n l < (n + 1) * 10 ^ l.length
  | [], n, _ => by simp [valF]
  | b :: r, n, h => by
    have hb := h b (by simp)
    have h2 := valF_lt r (10 * n + (b.toNat - 48)) (fun x hx => h x (by simp [hx]))
    rw [show valF n (b :: r) = valF (10 * n + (b.toNat - 48)) r from rfl, List.length_cons, Nat.pow_succ]
    refine Nat.lt_of_lt_of_le h2 ?_
    rw [show (n + 1) * (10 ^ r.length * 10) = (10 * (n + 1)) * 10 ^ r.length by rw [Nat.mul_comm (10 ^ r.length) 10, ← Nat.mul_assoc, Nat.mul_comm (n + 1) 10]]
    exact Nat.mul_le_mul_right _ (by omega)
theorem valF_ge : ∀ (l : List UInt8) (n : Nat), n * 10 ^ l.length ≤ valF n l
  | [], n => by simp [valF]
  | b :: r, n => by
    have h := valF_ge r (10 * n + (b.toNat - 48))
    rw [show valF n (b :: r) = valF (10 * n + (b.toNat - 48)) r from rfl, List.length_cons, Nat.pow_succ]
    refine Nat.le_trans ?_ h
    rw [show n * (10 ^ r.length * 10) = 10 * n * 10 ^ r.length by rw [Nat.mul_comm (10 ^ r.length) 10, ← Nat.mul_assoc, Nat.mul_comm n 10]]
    exact Nat.mul_le_mul_right _ (by omega)
theorem valF_mono (l : List UInt8) (n : Nat) : n ≤ valF n l := by
  have h := valF_ge l n
  have h2 : 1 ≤ (10 : Nat) ^ l.length := Nat.one_le_pow _ _ (by decide)
  exact Nat.le_trans (by simpa using Nat.mul_le_mul_left n h2) h
/-- A number of the configuration: what its digits say; nothing: it is none. -/
def numGoC : Nat → Nat → List UInt8 → Option Nat
  | n, _, [] => some n
  | n, i, b :: r => if b.toNat < 48 ∨ 57 < b.toNat ∨ (0 < i ∧ n = 0) ∨ 9 ≤ i then none else numGoC (10 * n + (b.toNat - 48)) (i + 1) r
def numC (s : List UInt8) : Option Nat := if s = [] then none else numGoC 0 0 s
def NcPost (w : World) (s : List UInt8) (e : Ending) (w' : World) : Prop :=
  e = .returned (.tuple #[.int .i64 ((numC s).getD 0 : Nat), .bool (numC s).isSome]) ∧ Below w.heap.size w w'
theorem numC_none {s : List UInt8} (h : numGoC 0 0 s = none) : numC s = none := by
  unfold numC
  split <;> simp_all

set_option maxRecDepth 100000 in
set_option maxHeartbeats 2000000 in
theorem numc_any (w : World) (s : List UInt8) (hl : s.length ≤ 1099511627776) :
    Calls Tryd.prog 71 #[.string (str s)] w (NcPost w s) := by
  go_enter Tryd.func71, Tryd.ntmps71
  go_wp2_with fail
  go_loopw [4] (fun v wr => ∃ n pos : Nat, v = .int .i64 n ∧ pos ≤ s.length ∧ pos ≤ 9 ∧ n < 10 ^ pos ∧ numGoC 0 0 s = numGoC n pos (s.drop pos) ∧ wr = w.iter (str s) pos) (fun _ wr => s.length - wr.iterPos w.heap.size)
  case atStart => exact ⟨0, 0, rfl, Nat.zero_le _, Nat.zero_le _, by simp, rfl, rfl⟩
  case round =>
    obtain ⟨n, pos, rfl, hp, hp9, hn, hg, rfl⟩ := hrel
    have hnb : n < 1000000000 := Nat.lt_of_lt_of_le hn (Nat.pow_le_pow_right (by decide : 0 < 10) hp9)
    have HN10 := Lib.hid hn
    have HG := Lib.hid hg
    clear hg hn
    by_cases hlt : pos < s.length
    · obtain ⟨r, k, hd, hk1, hk2, hr, hrk⟩ := dec_step s pos hlt
      have hnx : ∀ ty, (Instr.next (.pointer (some ⟨w.heap.size, 0, none⟩)) true ty).run Tryd.prog (w.iter (str s) pos) = .ok (.tuple #[.bool true, .int .i64 pos, .int .i32 r]) (w.iter (str s) (pos + k)) := by
        intro ty
        have := run_next_any (P := Tryd.prog) w (str s) pos ty hlt
        rw [hd] at this
        exact this
      have HE := Lib.hid (drop_get s pos hlt)
      have HRK := Lib.hid hrk
      clear hrk hd
      have bad : (r < 48 ∨ 57 < r ∨ (0 < pos ∧ n = 0) ∨ 9 ≤ pos) → numC s = none := by
        intro hbad
        refine numC_none ?_
        rw [HG.out, HE.out, numGoC, if_pos]
        rcases HRK.out with ⟨h1, h2, h3⟩ | ⟨h1, h2, h3⟩
        · rcases hbad with h | h | h | h
          · exact .inl (by omega)
          · exact .inr (.inl (by omega))
          · exact .inr (.inr (.inl h))
          · exact .inr (.inr (.inr h))
        · exact .inr (.inl (by omega))
      have good : 48 ≤ r → r ≤ 57 → ¬ (0 < pos ∧ n = 0) → ¬ 9 ≤ pos → k = 1 ∧ numGoC 0 0 s = numGoC (10 * n + (r - 48)) (pos + 1) (s.drop (pos + 1)) ∧ 10 * n + (r - 48) < 10 ^ (pos + 1) := by
        intro g1 g2 g3 g4
        rcases HRK.out with ⟨h1, h2, h3⟩ | ⟨h1, h2, h3⟩
        · refine ⟨h3, ?_, ?_⟩
          · rw [HG.out, HE.out, numGoC, if_neg, ← h2]
            rintro (h | h | h | h)
            · omega
            · omega
            · exact g3 h
            · exact g4 h
          · have := HN10.out
            rw [Nat.pow_succ]
            omega
        · omega
      have HBAD := Lib.hid bad
      have HGOOD := Lib.hid good
      clear bad good
      by_cases c1 : r < 48
      · have HB := Lib.hid (HBAD.out (.inl c1))
        have d1 : decide ((r : Int) < 48) = true := decide_eq_true (by omega)
        go_wp2_with fail
        go_ret2
        exact ⟨by rw [HB.out]; rfl, below_iter w _ _⟩
      have d1 : decide ((r : Int) < 48) = false := decide_eq_false (by omega)
      by_cases c2 : 57 < r
      · have HB := Lib.hid (HBAD.out (.inr (.inl c2)))
        have d2 : decide (57 < (r : Int)) = true := decide_eq_true (by omega)
        go_wp2_with fail
        go_ret2
        exact ⟨by rw [HB.out]; rfl, below_iter w _ _⟩
      have d2 : decide (57 < (r : Int)) = false := decide_eq_false (by omega)
      by_cases c3 : 0 < pos ∧ n = 0
      · have HB := Lib.hid (HBAD.out (.inr (.inr (.inl c3))))
        have d3 : decide (0 < (pos : Int)) = true := decide_eq_true (by omega)
        have d3' : decide (0 < pos) = true := decide_eq_true (by omega)
        have d4 : ((n : Int) == 0) = true := by rw [beq_iff_eq]; omega
        go_wp2_with fail
        go_ret2
        exact ⟨by rw [HB.out]; rfl, below_iter w _ _⟩
      rcases Nat.eq_zero_or_pos pos with c4 | c4
      case' inl =>
        have d3 : decide (0 < (pos : Int)) = false := decide_eq_false (by omega)
        have d3' : decide (0 < pos) = false := decide_eq_false (by omega)
      case' inr =>
        have d3 : decide (0 < (pos : Int)) = true := decide_eq_true (by omega)
        have d3' : decide (0 < pos) = true := decide_eq_true (by omega)
        have d4 : ((n : Int) == 0) = false := by rw [beq_eq_false_iff_ne]; omega
      all_goals
        have HC4 := Lib.hid c4
        clear c4
        by_cases c5 : 9 ≤ pos
        · have HB := Lib.hid (HBAD.out (.inr (.inr (.inr c5))))
          have d5 : decide (9 ≤ (pos : Int)) = true := decide_eq_true (by omega)
          go_wp2_with fail
          go_ret2
          exact ⟨by rw [HB.out]; rfl, below_iter w _ _⟩
        · have d5 : decide (9 ≤ (pos : Int)) = false := decide_eq_false (by omega)
          have HB := Lib.hid (HGOOD.out (by omega) (by omega) c3 c5)
          obtain rfl : k = 1 := HB.out.1
          go_wp2_with fail
          go_roundw
          case rel => exact ⟨10 * n + (r - 48), pos + 1, by congr 1; omega, by omega, by omega, HB.out.2.2, HB.out.2.1, rfl⟩
          case measure => simp; omega
    · have hnx : ∀ ty, (Instr.next (.pointer (some ⟨w.heap.size, 0, none⟩)) true ty).run Tryd.prog (w.iter (str s) pos) = .ok (.tuple #[.bool false]) (w.iter (str s) pos) := fun ty => run_next_end w (str s) pos ty hlt
      have hgo : numGoC 0 0 s = some n := by rw [HG.out, List.drop_eq_nil_of_le (by omega)]; rfl
      by_cases hs : s = []
      · have hts : (str s).toList = [] := by rw [toList_str, hs]
        have HB := Lib.hid (show numC s = none ∧ n = 0 by
          subst hs
          simp [numGoC] at hgo
          exact ⟨rfl, hgo.symm⟩)
        clear hs hgo
        go_wp2_with fail
        go_ret2
        exact ⟨by rw [HB.out.1, HB.out.2]; rfl, below_iter w _ _⟩
      · have hts : ¬ (str s).toList = [] := by rw [toList_str]; exact hs
        have HB := Lib.hid (show numC s = some n by rw [numC, if_neg hs, hgo])
        have HS := Lib.hid hs
        clear hs hgo
        go_wp2_with fail
        go_ret2
        refine ⟨?_, below_iter w _ _⟩
        rw [HB.out]
        simp [*]
end Go.Proofs.YtnmdiageigbphaaDoor
