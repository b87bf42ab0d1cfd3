/-
  What the reference reads, plainly: numbers, cut texts, lengths.
-/
import Derived.Test.YtabmgggmailomaaDoorAn8
namespace Go.Proofs.YtabmgggmailomaaDoor
open Go.RowKit

def digs (l : List UInt8) : Prop := ∀ b ∈ l, 48 ≤ b.toNat ∧ b.toNat ≤ 57
def valF (n : Nat) (l : List UInt8) : Nat := l.foldl (fun n b => 10 * n + (b.toNat - 48)) n
theorem valF_ge : ∀ (l : List UInt8) (n : Nat), n * 10 ^ l.length ≤ valF n l
  | [], n => by simp [valF]
  | b :: r, n => by
    have h := valF_ge r (10 * n + (b.toNat - 48))
    rw [show valF n (b :: r) = valF (10 * n + (b.toNat - 48)) r from rfl, List.length_cons, Nat.pow_succ]
    refine Nat.le_trans ?_ h
    rw [show n * (10 ^ r.length * 10) = 10 * n * 10 ^ r.length by rw [Nat.mul_comm (10 ^ r.length) 10, ← Nat.mul_assoc, Nat.mul_comm n 10]]
    exact Nat.mul_le_mul_right _ (by omega)
theorem valF_mono (l : List UInt8) (n : Nat) : n ≤ valF n l := by
  have h := valF_ge l n
  have h2 : 1 ≤ (10 : Nat) ^ l.length := Nat.one_le_pow _ _ (by decide)
  exact Nat.le_trans (by simpa using Nat.mul_le_mul_left n h2) h
theorem go_spec : ∀ (l : List UInt8) (n : Nat) (f : Bool) (v : Nat), numGo n f l = some v → digs l ∧ v = valF n l ∧ (l ≠ [] → f = false → n ≠ 0)
  | [], n, f, v, h => by
    simp [numGo] at h
    exact ⟨fun _ h => (by simp at h), h.symm, fun h => absurd rfl h⟩
  | b :: r, n, f, v, h => by
    rw [numGo] at h
    split at h
    · cases h
    · rename_i hc
      obtain ⟨h1, h2, _⟩ := go_spec r _ false v h
      refine ⟨fun x hx => ?_, h2, fun _ hf hn => hc (.inr (.inr (.inl ⟨hf, hn⟩)))⟩
      rcases List.mem_cons.1 hx with rfl | hx
      · exact ⟨by omega, by omega⟩
      · exact h1 x hx
theorem go_some : ∀ (l : List UInt8) (n : Nat), n ≠ 0 → digs l → valF n l ≤ 1000 → numGo n false l = some (valF n l)
  | [], n, _, _, _ => rfl
  | b :: r, n, hn, hd, hv => by
    have hb := hd b (by simp)
    have hm := valF_mono (b :: r) n
    rw [numGo, if_neg (by rintro (h | h | h | h) <;> omega)]
    exact go_some r _ (by omega) (fun x hx => hd x (by simp [hx])) hv
/-- A number read: digits, no nought ahead, not too great. -/
theorem numOk_iff (s : List UInt8) (most : Nat) (hm : most ≤ 1000) : numOk s most = true ↔ s ≠ [] ∧ digs s ∧ (1 < s.length → s.getD 0 0 ≠ 48) ∧ valF 0 s ≤ most := by
  constructor
  · intro h
    simp only [numOk, Bool.and_eq_true, Bool.not_eq_true', decide_eq_true_eq] at h
    obtain ⟨⟨h1, h2⟩, h3⟩ := h
    rcases hg : numGo 0 true s with _ | v
    · rw [hg] at h1; cases h1
    · obtain ⟨g1, g2, _⟩ := go_spec s 0 true v hg
      rw [numV, hg] at h3
      simp only [Option.getD_some] at h3
      refine ⟨by rintro rfl; simp at h2, g1, fun hl => ?_, by rw [← g2]; exact h3⟩
      match s, hl, hg, g1 with
      | b :: c :: r, _, hg, g1 =>
        rw [numGo] at hg
        split at hg
        · cases hg
        · obtain ⟨_, _, h5⟩ := go_spec (c :: r) _ false v hg
          have := h5 (by simp) rfl
          intro e
          simp at e
          subst e
          simp at this
  · rintro ⟨h1, h2, h3, h4⟩
    have key : numGo 0 true s = some (valF 0 s) := by
      match s, h1, h2, h3, h4 with
      | b :: r, _, h2, h3, h4 =>
        have hb := h2 b (by simp)
        rw [numGo, if_neg (by rintro (h | h | h | h) <;> first | omega | (have := h.1; simp at this))]
        rw [show valF 0 (b :: r) = valF (10 * 0 + (b.toNat - 48)) r from rfl] at h4 ⊢
        rcases r with _ | ⟨c, r⟩
        · rfl
        · have h5 := h3 (by simp)
          simp at h5
          have : b.toNat ≠ 48 := fun e => h5 (UInt8.toNat_inj.1 e)
          exact go_some _ _ (by omega) (fun x hx => h2 x (by simp at hx; simp [hx])) (by omega)
    simp only [numOk, key, numV, Option.getD_some, Option.isSome_some, Bool.true_and, Bool.and_eq_true, Bool.not_eq_true', decide_eq_true_eq]
    exact ⟨by cases s <;> simp_all, h4⟩
theorem numOk_val {s : List UInt8} {most : Nat} (h : numOk s most = true) : numV s = valF 0 s := by
  simp only [numOk, Bool.and_eq_true] at h
  rcases hg : numGo 0 true s with _ | v
  · rw [hg] at h; cases h.1.1
  · rw [numV, hg]
    exact (go_spec s 0 true v hg).2.1
theorem valF_big (s : List UInt8) (h0 : s ≠ []) (hd : digs s) (h1 : 1 < s.length → s.getD 0 0 ≠ 48) (hl : 1 < s.length) : 10 ^ (s.length - 1) ≤ valF 0 s := by
  match s, h0, hd, h1, hl with
  | b :: r, _, hd, h1, hl =>
    have hb := hd b (by simp)
    have h5 := h1 hl
    simp at h5
    have hne : b.toNat ≠ 48 := fun e => h5 (UInt8.toNat_inj.1 e)
    have h := valF_ge r (10 * 0 + (b.toNat - 48))
    rw [show valF 0 (b :: r) = valF (10 * 0 + (b.toNat - 48)) r from rfl]
    refine Nat.le_trans ?_ h
    simp only [List.length_cons, Nat.add_sub_cancel]
    exact Nat.le_mul_of_pos_left _ (by omega)
theorem numOk_len (s : List UInt8) (most k : Nat) (hm : most ≤ 1000) (hk : most < 10 ^ k) (hk1 : 1 ≤ k) (h : numOk s most = true) : s.length ≤ k := by
  obtain ⟨h1, h2, h3, h4⟩ := (numOk_iff s most hm).1 h
  rcases Nat.lt_or_ge k s.length with hl | hl
  · have h5 := valF_big s h1 h2 h3 (by omega)
    have h6 : (10 : Nat) ^ k ≤ 10 ^ (s.length - 1) := Nat.pow_le_pow_right (by decide) (by omega)
    omega
  · exact hl
def refNum (s : List UInt8) (most : Nat) : Int := if numOk s most = true then (numV s : Int) else -1
theorem valF_snoc (l : List UInt8) (b : UInt8) : valF 0 (l ++ [b]) = 10 * valF 0 l + (b.toNat - 48) := by simp [valF]
theorem valF_lt : ∀ (l : List UInt8) (n : Nat), digs l → valF n l < (n + 1) * 10 ^ l.length
  | [], n, _ => by simp [valF]
  | b :: r, n, h => by
    have hb := h b (by simp)
    have h2 := valF_lt r (10 * n + (b.toNat - 48)) (fun x hx => h x (by simp [hx]))
    rw [show valF n (b :: r) = valF (10 * n + (b.toNat - 48)) r from rfl, List.length_cons, Nat.pow_succ]
    refine Nat.lt_of_lt_of_le h2 ?_
    rw [show (n + 1) * (10 ^ r.length * 10) = (10 * (n + 1)) * 10 ^ r.length by rw [Nat.mul_comm (10 ^ r.length) 10, ← Nat.mul_assoc, Nat.mul_comm (n + 1) 10]]
    exact Nat.mul_le_mul_right _ (by omega)

theorem cutB_sum (c : UInt8) : ∀ s : List UInt8, ((cutB c s).map List.length).sum + (cutB c s).length = s.length + 1
  | [] => by simp [cutB]
  | x :: r => by
    have h := cutB_sum c r
    rw [cutB]
    split
    · simp; omega
    · split
      · rename_i p q hq
        rw [hq] at h
        simp at h ⊢
        omega
      · rename_i hq
        rw [hq] at h
        simp at h
/-- An address read is no longer than 15 bytes. -/
theorem parseA_len {s : List UInt8} (h : (cutB 46 s).length = 4 ∧ okN (cutB 46 s) 4 = true) : s.length ≤ 15 := by
  have hs := cutB_sum 46 s
  obtain ⟨h1, h2⟩ := h
  rw [okN_iff] at h2
  match hc : cutB 46 s, h1 with
  | [p0, p1, p2, p3], _ =>
    rw [hc] at h2 hs
    have k0 := numOk_len p0 255 3 (by decide) (by decide) (by decide) (h2 0 (by decide))
    have k1 := numOk_len p1 255 3 (by decide) (by decide) (by decide) (h2 1 (by decide))
    have k2 := numOk_len p2 255 3 (by decide) (by decide) (by decide) (h2 2 (by decide))
    have k3 := numOk_len p3 255 3 (by decide) (by decide) (by decide) (h2 3 (by decide))
    simp at hs
    omega
theorem parseV_ok {s : List UInt8} : (parseV s).2 = 0 ↔ ((cutB 46 s).length = 4 ∧ okN (cutB 46 s) 4 = true) := by
  by_cases h : (cutB 46 s).length = 4 ∧ okN (cutB 46 s) 4 = true
  · rw [parse_yes h]
    simp [h]
  · rw [parse_no h]
    simp [h]
theorem parseV_long {s : List UInt8} (h : 15 < s.length) : parseV s = (ad0, 9) := parse_no fun hh => by have := parseA_len hh; omega
theorem parseV_bad {s : List UInt8} (h : (parseV s).2 ≠ 0) : parseV s = (ad0, 9) := parse_no fun hh => h (parseV_ok.2 hh)
theorem netOf_long {p0 p1 : List UInt8} (h : 17 < p0.length + p1.length) : netOf p0 p1 = ((ad0, 0), 9) := by
  rw [netOf, if_pos]
  by_cases h1 : (parseV p0).2 = 0
  · right
    have k0 := parseA_len (parseV_ok.1 h1)
    rcases hk : numOk p1 32 with _ | _
    · rfl
    · have := numOk_len p1 32 2 (by decide) (by decide) (by decide) hk
      omega
  · exact .inl h1
/-- What the reference's Split and ParseNet give. -/
def splitV (s : List UInt8) : (Ad4 × Int) × Bool :=
  if 18 < s.length ∨ (cutB 47 s).length ≠ 2 then ((ad0, 0), false)
  else (((parseV ((cutB 47 s).getD 0 [])).1, refNum ((cutB 47 s).getD 1 []) 32), decide ((parseV ((cutB 47 s).getD 0 [])).2 = 0) && decide (0 ≤ refNum ((cutB 47 s).getD 1 []) 32))
theorem split_no {s : List UInt8} (h : (splitV s).2 = false) : parseNV s = ((ad0, 0), 9) := by
  unfold splitV at h
  split at h
  · rename_i hc
    by_cases h2 : (cutB 47 s).length = 2
    · have hl : 18 < s.length := by rcases hc with hc | hc; exact hc; exact absurd h2 hc
      have hs := cutB_sum 47 s
      rw [parseNV, if_pos h2]
      match hq : cutB 47 s, h2 with
      | [p0, p1], _ =>
        rw [hq] at hs
        simp at hs
        exact netOf_long (by simp; omega)
    · rw [parseNV, if_neg h2]
  · rename_i hc
    rw [not_or, Decidable.not_not] at hc
    rw [parseNV, if_pos hc.2, netOf, if_pos]
    simp only [Bool.and_eq_false_iff, decide_eq_false_iff_not] at h
    rcases h with h | h
    · exact .inl h
    · right
      rcases hk : numOk ((cutB 47 s).getD 1 []) 32 with _ | _
      · rfl
      · rw [refNum, if_pos hk] at h
        omega
theorem split_yes {s : List UInt8} (h : (splitV s).2 = true) : ∃ n : Nat, (splitV s).1.2 = n ∧ parseNV s = if adeq (firstA (splitV s).1.1 n) (splitV s).1.1 = true then (((splitV s).1.1, n), 0) else ((ad0, 0), 1) := by
  unfold splitV at h ⊢
  split at h
  · cases h
  · rename_i hc
    rw [if_neg hc]
    simp only [Bool.and_eq_true, decide_eq_true_eq] at h
    rw [not_or, Decidable.not_not] at hc
    have hk : numOk ((cutB 47 s).getD 1 []) 32 = true := by
      rcases hk : numOk ((cutB 47 s).getD 1 []) 32 with _ | _
      · rw [refNum, hk] at h
        simp at h
      · rfl
    refine ⟨numV ((cutB 47 s).getD 1 []), by rw [refNum, if_pos hk], ?_⟩
    rw [parseNV, if_pos hc.2, netOf, if_neg (by
      rintro (h1 | h1)
      · exact h1 h.1
      · rw [hk] at h1; cases h1)]
end Go.Proofs.YtabmgggmailomaaDoor
