/-
  The reference's number.
-/
import Derived.Test.YtabmgggmailomaaDoorCn2
namespace Go.Proofs.YtabmgggmailomaaDoor
open Go.RowKit

theorem refNum_bad {s : List UInt8} {most : Nat} (h : numOk s most ≠ true) : refNum s most = -1 := if_neg h
theorem refNum_short {s : List UInt8} {most : Nat} (hm : most ≤ 1000) (h : s.length < 1 ∨ 9 < s.length ∨ (1 < s.length ∧ s.getD 0 0 = 48)) : refNum s most = -1 := by
  refine refNum_bad fun hh => ?_
  have h1 := numOk_len s most 4 hm (by omega) (by decide) hh
  obtain ⟨h2, _, h3, _⟩ := (numOk_iff s most hm).1 hh
  rcases h with h | h | h
  · exact h2 (List.length_eq_zero_iff.1 (by omega))
  · omega
  · exact h3 h.1 h.2
theorem refNum_sign {s : List UInt8} {most i : Nat} (hm : most ≤ 1000) (hi : i < s.length) (h : (s.getD i 0).toNat < 48 ∨ 57 < (s.getD i 0).toNat) : refNum s most = -1 := by
  refine refNum_bad fun hh => ?_
  obtain ⟨_, h2, _, _⟩ := (numOk_iff s most hm).1 hh
  have := h2 (s.getD i 0) (by simp [List.getD, hi])
  omega
theorem refNum_end {s : List UInt8} {most : Nat} (hm : most ≤ 1000) (h0 : s ≠ []) (h1 : digs s) (h2 : 1 < s.length → s.getD 0 0 ≠ 48) : refNum s most = if most < valF 0 s then -1 else (valF 0 s : Int) := by
  by_cases h : most < valF 0 s
  · rw [if_pos h]
    refine refNum_bad fun hh => ?_
    have := ((numOk_iff s most hm).1 hh).2.2.2
    omega
  · have hh := (numOk_iff s most hm).2 ⟨h0, h1, h2, by omega⟩
    rw [if_neg h, refNum, if_pos hh, numOk_val hh]
theorem digs_snoc {s : List UInt8} {i : Nat} (h : digs (s.take i)) (hi : i < s.length) (hc : 48 ≤ (s.getD i 0).toNat ∧ (s.getD i 0).toNat ≤ 57) : digs (s.take (i + 1)) := by
  rw [take_snoc s i hi]
  intro b hb
  rcases List.mem_append.1 hb with hb | hb
  · exact h b hb
  · obtain rfl := List.mem_singleton.1 hb
    exact hc

def RnP (w : World) (v : Int) (e : Ending) (w' : World) : Prop := e = .returned (.int .i64 v) ∧ w' = w
set_option maxRecDepth 100000 in
set_option maxHeartbeats 2000000 in
theorem rnumber_any (w : World) (s : List UInt8) (most : Nat) (hl : s.length ≤ 1099511627776) (hm : most ≤ 1000) :
    Calls Tryd.prog 34 #[.string (str s), .int .i64 most] w (RnP w (refNum s most)) := by
  have hss : (str s).size = s.length := rfl
  have hg0 := str_get s 0
  rcases Nat.lt_or_ge s.length 1 with c1 | c1
  · have d1 : decide ((s.length : Int) < 1) = true := decide_eq_true (by omega)
    have HV := Lib.hid (refNum_short (s := s) hm (.inl c1))
    clear c1
    go_enter Tryd.func34, Tryd.ntmps34
    go_wp2_with fail
    go_ret
    exact ⟨by rw [HV.out]; rfl, rfl⟩
  have d1 : decide ((s.length : Int) < 1) = false := decide_eq_false (by omega)
  rcases Nat.lt_or_ge 9 s.length with c2 | c2
  · have d2 : decide (9 < (s.length : Int)) = true := decide_eq_true (by omega)
    have HV := Lib.hid (refNum_short (s := s) hm (.inr (.inl c2)))
    clear c2 c1
    go_enter Tryd.func34, Tryd.ntmps34
    go_wp2_with fail
    go_ret
    exact ⟨by rw [HV.out]; rfl, rfl⟩
  have d2 : decide (9 < (s.length : Int)) = false := decide_eq_false (by omega)
  obtain ⟨x0, hx0⟩ : ∃ x, s.getD 0 0 = x := ⟨_, rfl⟩
  rw [hx0] at hg0
  by_cases c3 : 1 < s.length ∧ s.getD 0 0 = 48
  · have d3 : decide (1 < (s.length : Int)) = true := decide_eq_true (by omega)
    have d4 : ((x0.toNat : Int) == 48) = true := by rw [← hx0, c3.2]; rfl
    have HV := Lib.hid (refNum_short (s := s) hm (.inr (.inr c3)))
    clear c2 c1 c3 hx0
    have hin : (0 : Int) < (s.length : Int) := by simp at d3; omega
    go_enter Tryd.func34, Tryd.ntmps34
    go_wp2_with fail
    go_ret
    exact ⟨by rw [HV.out]; rfl, rfl⟩
  have HC3 := Lib.hid (show 1 < s.length → s.getD 0 0 ≠ 48 from fun h e => c3 ⟨h, e⟩)
  clear c3
  have hin : (0 : Int) < (s.length : Int) := by omega
  have h0 : s ≠ [] := fun e => by rw [e] at c1; simp at c1
  have HS := Lib.hid (show s.length ≤ 9 from c2)
  have H0 := Lib.hid h0
  have HI := Lib.hid hx0
  rcases Nat.lt_or_ge 1 s.length with c4 | c4
  case' inl =>
    have d3 : decide (1 < (s.length : Int)) = true := decide_eq_true (by omega)
    have d4 : ((x0.toNat : Int) == 48) = false := by
      rw [beq_eq_false_iff_ne]
      intro e
      exact HC3.out c4 (by rw [hx0]; exact UInt8.toNat_inj.1 (by simp; omega))
  case' inr =>
    have d3 : decide (1 < (s.length : Int)) = false := decide_eq_false (by omega)
  all_goals
    clear h0 c4 c1 c2 hx0
    go_enter Tryd.func34, Tryd.ntmps34
    go_wp2_with fail
    go_loopw [5, 6] (fun v iv wr => ∃ n i : Nat, v = .int .i64 n ∧ iv = .int .i64 i ∧ i ≤ s.length ∧ digs (s.take i) ∧ n = valF 0 (s.take i) ∧ wr = w) (fun _ iv _ => s.length - (intOf iv).toNat)
    case atStart => exact ⟨0, 0, rfl, rfl, Nat.zero_le _, by intro b hb; simp at hb, rfl, rfl⟩
    case round =>
      obtain ⟨n, i, rfl, rfl, hi, hd, hn, rfl⟩ := hrel
      have hnb : n < 1000000000 := by
        have h1 := valF_lt (s.take i) 0 hd
        have h2 : (10 : Nat) ^ (s.take i).length ≤ 10 ^ 9 := Nat.pow_le_pow_right (by decide) (by have := HS.out; simp; omega)
        rw [← hn] at h1
        omega
      by_cases hlt : i < s.length
      · have hii : (0 : Int) ≤ (i : Int) ∧ (i : Int) < (s.length : Int) := ⟨by omega, by omega⟩
        have hget := str_get s i
        have HB := Lib.hid (refNum_sign (s := s) (i := i) hm hlt)
        have HD := Lib.hid (digs_snoc hd hlt)
        have HT := Lib.hid (take_snoc s i hlt)
        obtain ⟨x, hx⟩ : ∃ x, s.getD i 0 = x := ⟨_, rfl⟩
        rw [hx] at hget HB HD HT
        have HN := Lib.hid hn
        have hxl := x.toNat_lt
        clear hd hn hx
        rcases Nat.lt_or_ge x.toNat 48 with k1 | k1
        · have e1 : decide ((x.toNat : Int) < 48) = true := decide_eq_true (by omega)
          have HV := Lib.hid (HB.out (.inl k1))
          clear k1
          go_wp2_with fail
          go_ret
          exact ⟨by rw [HV.out]; rfl, rfl⟩
        have e1 : decide ((x.toNat : Int) < 48) = false := decide_eq_false (by omega)
        rcases Nat.lt_or_ge 57 x.toNat with k2 | k2
        · have e2 : decide (57 < (x.toNat : Int)) = true := decide_eq_true (by omega)
          have HV := Lib.hid (HB.out (.inr k2))
          clear k1 k2
          go_wp2_with fail
          go_ret
          exact ⟨by rw [HV.out]; rfl, rfl⟩
        have e2 : decide (57 < (x.toNat : Int)) = false := decide_eq_false (by omega)
        have HDD := Lib.hid (HD.out ⟨k1, k2⟩)
        have K1 := Lib.hid k1
        have K2 := Lib.hid k2
        have f1 : IntKind.u8.wrap ((x.toNat : Int) - 48) = (x.toNat : Int) - 48 := IntWalk.u8_in _ (by omega)
        go_wp2_with fail
        go_roundw
        case rel => exact ⟨10 * n + (x.toNat - 48), i + 1, by go_num, by go_num, by omega, HDD.out, by rw [HT.out, valF_snoc, HN.out], trivial⟩
        case measure => simp [intOf]; omega
      · obtain rfl : i = s.length := by omega
        rw [List.take_length] at hd hn
        have HV := Lib.hid (refNum_end (s := s) hm H0.out hd HC3.out)
        have HN := Lib.hid hn
        clear hd hn hlt
        by_cases k : most < n
        · have e1 : decide ((most : Int) < (n : Int)) = true := decide_eq_true (by omega)
          have HK := Lib.hid k
          clear k
          go_wp2_with fail
          go_ret
          exact ⟨by rw [HV.out, ← HN.out, if_pos HK.out]; rfl, rfl⟩
        · have e1 : decide ((most : Int) < (n : Int)) = false := decide_eq_false (by omega)
          have HK := Lib.hid k
          clear k
          go_wp2_with fail
          go_ret
          exact ⟨by rw [HV.out, ← HN.out, if_neg HK.out]; rfl, rfl⟩
end Go.Proofs.YtabmgggmailomaaDoor
