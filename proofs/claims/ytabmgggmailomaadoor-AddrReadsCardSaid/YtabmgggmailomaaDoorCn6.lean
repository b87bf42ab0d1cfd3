/-
  The reference's hex and ParseMac.
-/
import Derived.Test.YtabmgggmailomaaDoorCn5
namespace Go.Proofs.YtabmgggmailomaaDoor
open Go.RowKit

def joinB (c : UInt8) : List (List UInt8) → List UInt8
  | [] => []
  | [p] => p
  | p :: q :: r => p ++ c :: joinB c (q :: r)
theorem join_cut (c : UInt8) : ∀ s : List UInt8, joinB c (cutB c s) = s
  | [] => rfl
  | x :: r => by
    have h := join_cut c r
    have hs := cutB_sum c r
    rw [cutB]
    match hq : cutB c r with
    | [] => rw [hq] at hs; simp at hs
    | p :: q =>
      rw [hq] at h
      split
      · rename_i hx
        rw [joinB, h, hx]
        rfl
      · rcases q with _ | ⟨q, t⟩
        · simp only [joinB] at h ⊢
          rw [h]
        · simp only [joinB, List.cons_append] at h ⊢
          rw [h]
def mOk (s : List UInt8) (i : Nat) : Bool := (hexD (s.getD (3 * i) 0).toNat).isSome && (hexD (s.getD (3 * i + 1) 0).toNat).isSome && (decide (5 ≤ i) || s.getD (3 * i + 2) 0 == 58)
def parts6 (s : List UInt8) : List (List UInt8) := [[s.getD 0 0, s.getD 1 0], [s.getD 3 0, s.getD 4 0], [s.getD 6 0, s.getD 7 0], [s.getD 9 0, s.getD 10 0], [s.getD 12 0, s.getD 13 0], [s.getD 15 0, s.getD 16 0]]
theorem parts6_get (s : List UInt8) (i : Nat) (h : i < 6) : (parts6 s).getD i [] = [s.getD (3 * i) 0, s.getD (3 * i + 1) 0] := by
  rcases (show i = 0 ∨ i = 1 ∨ i = 2 ∨ i = 3 ∨ i = 4 ∨ i = 5 by omega) with rfl | rfl | rfl | rfl | rfl | rfl <;> rfl
theorem pair_two (x y : UInt8) : pairOk [x, y] = ((hexD x.toNat).isSome && (hexD y.toNat).isSome) := by
  rcases hx : hexD x.toNat with _ | d
  · simp [pairOk, pairGo, hx]
  · rcases hy : hexD y.toNat with _ | e <;> simp [pairOk, pairGo, hx, hy]
theorem pair_val (x y : UInt8) {d e : Nat} (hx : hexD x.toNat = some d) (hy : hexD y.toNat = some e) : pairV [x, y] = 16 * d + e := by
  have h1 := hexD_le hx
  simp only [pairV, pairGo, hx, hy, Option.getD_some]
  omega
theorem pair_len {p : List UInt8} (h : pairOk p = true) : ∃ x y, p = [x, y] ∧ (hexD x.toNat).isSome = true ∧ (hexD y.toNat).isSome = true := by
  have h0 := h
  simp only [pairOk, Bool.and_eq_true, beq_iff_eq] at h
  match p, h.2 with
  | [x, y], _ =>
    rw [pair_two, Bool.and_eq_true] at h0
    exact ⟨x, y, rfl, h0.1, h0.2⟩
theorem macs_of {s : List UInt8} (h : (cutB 58 s).length = 6 ∧ okM (cutB 58 s) 6 = true) : s.length = 17 ∧ ∀ i < 6, mOk s i = true := by
  have hj := join_cut 58 s
  obtain ⟨h1, h2⟩ := h
  rw [okM_iff] at h2
  match hc : cutB 58 s, h1 with
  | [p0, p1, p2, p3, p4, p5], _ =>
    rw [hc] at h2 hj
    obtain ⟨a0, b0, rfl, ha0, hb0⟩ := pair_len (h2 0 (by decide))
    obtain ⟨a1, b1, rfl, ha1, hb1⟩ := pair_len (h2 1 (by decide))
    obtain ⟨a2, b2, rfl, ha2, hb2⟩ := pair_len (h2 2 (by decide))
    obtain ⟨a3, b3, rfl, ha3, hb3⟩ := pair_len (h2 3 (by decide))
    obtain ⟨a4, b4, rfl, ha4, hb4⟩ := pair_len (h2 4 (by decide))
    obtain ⟨a5, b5, rfl, ha5, hb5⟩ := pair_len (h2 5 (by decide))
    simp only [joinB, List.cons_append, List.nil_append] at hj
    subst hj
    refine ⟨rfl, fun i hi => ?_⟩
    rcases (show i = 0 ∨ i = 1 ∨ i = 2 ∨ i = 3 ∨ i = 4 ∨ i = 5 by omega) with rfl | rfl | rfl | rfl | rfl | rfl <;> simp [mOk, *]
theorem mac_long {s : List UInt8} (h : s.length ≠ 17) : parseMV s = (mac0, 9) := parseM_no fun hh => h (macs_of hh).1
theorem mac_bad {s : List UInt8} {i : Nat} (hi : i < 6) (h : mOk s i = false) : parseMV s = (mac0, 9) := parseM_no fun hh => by
  have := (macs_of hh).2 i hi
  rw [h] at this
  cases this
theorem hexD_no (x : UInt8) (h : (hexD x.toNat).isSome = true) : x ≠ 58 := by
  rintro rfl
  revert h
  decide
theorem list17 {s : List UInt8} (h : s.length = 17) : s = [s.getD 0 0, s.getD 1 0, s.getD 2 0, s.getD 3 0, s.getD 4 0, s.getD 5 0, s.getD 6 0, s.getD 7 0, s.getD 8 0, s.getD 9 0, s.getD 10 0, s.getD 11 0, s.getD 12 0, s.getD 13 0, s.getD 14 0, s.getD 15 0, s.getD 16 0] := by
  match s, h with
  | [a0, a1, a2, a3, a4, a5, a6, a7, a8, a9, a10, a11, a12, a13, a14, a15, a16], _ => rfl
theorem cut_two {x y : UInt8} {r : List UInt8} (hx : (hexD x.toNat).isSome = true) (hy : (hexD y.toNat).isSome = true) : cutB 58 (x :: y :: 58 :: r) = [x, y] :: cutB 58 r := by
  refine cutB_cons 58 r [x, y] fun z hz => ?_
  simp at hz
  rcases hz with rfl | rfl
  · exact hexD_no _ hx
  · exact hexD_no _ hy
theorem mac_in {s : List UInt8} (hl : s.length = 17) (h : ∀ i < 6, mOk s i = true) : parseMV s = (macL (parts6 s), 0) := by
  have hc : cutB 58 s = parts6 s := by
    have k0 := h 0 (by decide); have k1 := h 1 (by decide); have k2 := h 2 (by decide); have k3 := h 3 (by decide); have k4 := h 4 (by decide); have k5 := h 5 (by decide)
    have e := list17 hl
    simp only [mOk, Bool.and_eq_true, Bool.or_eq_true, beq_iff_eq, decide_eq_true_eq] at k0 k1 k2 k3 k4 k5
    obtain ⟨⟨x0, y0⟩, c0⟩ := k0
    obtain ⟨⟨x1, y1⟩, c1⟩ := k1
    obtain ⟨⟨x2, y2⟩, c2⟩ := k2
    obtain ⟨⟨x3, y3⟩, c3⟩ := k3
    obtain ⟨⟨x4, y4⟩, c4⟩ := k4
    obtain ⟨⟨x5, y5⟩, _⟩ := k5
    have c0 : s.getD 2 0 = 58 := c0.resolve_left (by decide)
    have c1 : s.getD 5 0 = 58 := c1.resolve_left (by decide)
    have c2 : s.getD 8 0 = 58 := c2.resolve_left (by decide)
    have c3 : s.getD 11 0 = 58 := c3.resolve_left (by decide)
    have c4 : s.getD 14 0 = 58 := c4.resolve_left (by decide)
    rw [c0, c1, c2, c3, c4] at e
    refine (congrArg (cutB 58) e).trans ?_
    rw [cut_two x0 y0, cut_two x1 y1, cut_two x2 y2, cut_two x3 y3, cut_two x4 y4, cutB_none 58 _ (fun z hz => by
      simp only [List.mem_cons, List.not_mem_nil, or_false] at hz
      rcases hz with rfl | rfl
      · exact hexD_no _ x5
      · exact hexD_no _ y5)]
    rfl
  have ho : okM (parts6 s) 6 = true := okM_iff.2 fun i hi => by
    rw [parts6_get s i hi, pair_two]
    have := h i hi
    simp only [mOk, Bool.and_eq_true] at this
    rw [this.1.1, this.1.2]
    rfl
  rw [← hc] at ho ⊢
  exact parseM_yes ⟨by rw [hc]; rfl, ho⟩
def hexI (x : UInt8) : Int := match hexD x.toNat with
  | some d => d
  | none => -1
theorem hexI_yes {x : UInt8} {d : Nat} (h : hexD x.toNat = some d) : hexI x = d := by rw [hexI, h]
theorem hexI_no {x : UInt8} (h : hexD x.toNat = none) : hexI x = -1 := by rw [hexI, h]
set_option maxHeartbeats 1000000 in
theorem rhex_any (w : World) (x : UInt8) : Calls Tryd.prog 36 #[.int .u8 (x.toNat : Int)] w (RnP w (hexI x)) := by
  have hxl := x.toNat_lt
  have H := Lib.hid (show hexD x.toNat = hexD x.toNat from rfl)
  have fu : ∀ n : Int, 0 ≤ n ∧ n ≤ 255 → IntKind.u8.wrap n = n := fun n h => IntWalk.u8_in n h
  rcases (show x.toNat < 48 ∨ (48 ≤ x.toNat ∧ x.toNat ≤ 57) ∨ (57 < x.toNat ∧ x.toNat < 65) ∨ (65 ≤ x.toNat ∧ x.toNat ≤ 70) ∨ (70 < x.toNat ∧ x.toNat < 97) ∨ (97 ≤ x.toNat ∧ x.toNat ≤ 102) ∨ 102 < x.toNat by omega) with h | h | h | h | h | h | h
  case' inl => have HV := Lib.hid (hexI_no (x := x) (by rw [hexD, if_neg (by omega), if_neg (by omega), if_neg (by omega)]))
  case' inr.inl => have HV := Lib.hid (hexI_yes (x := x) (by rw [hexD, if_pos (by omega)]))
  case' inr.inr.inl => have HV := Lib.hid (hexI_no (x := x) (by rw [hexD, if_neg (by omega), if_neg (by omega), if_neg (by omega)]))
  case' inr.inr.inr.inl => have HV := Lib.hid (hexI_yes (x := x) (by rw [hexD, if_neg (by omega), if_neg (by omega), if_pos (by omega)]))
  case' inr.inr.inr.inr.inl => have HV := Lib.hid (hexI_no (x := x) (by rw [hexD, if_neg (by omega), if_neg (by omega), if_neg (by omega)]))
  case' inr.inr.inr.inr.inr.inl => have HV := Lib.hid (hexI_yes (x := x) (by rw [hexD, if_neg (by omega), if_pos (by omega)]))
  case' inr.inr.inr.inr.inr.inr => have HV := Lib.hid (hexI_no (x := x) (by rw [hexD, if_neg (by omega), if_neg (by omega), if_neg (by omega)]))
  all_goals
    first
      | have d1 : decide (48 ≤ (x.toNat : Int)) = true := decide_eq_true (by omega)
      | have d1 : decide (48 ≤ (x.toNat : Int)) = false := decide_eq_false (by omega)
    first
      | have d2 : decide ((x.toNat : Int) ≤ 57) = true := decide_eq_true (by omega)
      | have d2 : decide ((x.toNat : Int) ≤ 57) = false := decide_eq_false (by omega)
    first
      | have d3 : decide (65 ≤ (x.toNat : Int)) = true := decide_eq_true (by omega)
      | have d3 : decide (65 ≤ (x.toNat : Int)) = false := decide_eq_false (by omega)
    first
      | have d4 : decide ((x.toNat : Int) ≤ 70) = true := decide_eq_true (by omega)
      | have d4 : decide ((x.toNat : Int) ≤ 70) = false := decide_eq_false (by omega)
    first
      | have d5 : decide (97 ≤ (x.toNat : Int)) = true := decide_eq_true (by omega)
      | have d5 : decide (97 ≤ (x.toNat : Int)) = false := decide_eq_false (by omega)
    first
      | have d6 : decide ((x.toNat : Int) ≤ 102) = true := decide_eq_true (by omega)
      | have d6 : decide ((x.toNat : Int) ≤ 102) = false := decide_eq_false (by omega)
    go_enter Tryd.func36, Tryd.ntmps36
    go_wp2_with fail
    go_ret
    refine ⟨?_, rfl⟩
    rw [HV.out]
    first | rfl | (simp; omega) | (rw [fu _ (by omega)]; simp; omega) | (congr 2; omega)
end Go.Proofs.YtabmgggmailomaaDoor
