/-
  The walk of the statement OptWrites.
-/
import Derived.Test.YtidohmcneoldcaaOptReads
namespace Go.Proofs.Ytidohmcneoldcaa
open Go.RowKit

theorem putO_len (l : List Ob) : (putO l).1.length ≤ 1200 := by
  unfold putO
  split
  · split
    · simp
    · simp; omega
  · simp
theorem putO_err (l : List Ob) : (putO l).2 = 0 ∨ (putO l).2 = 1 ∨ (putO l).2 = 2 := by
  unfold putO
  split
  · split
    · exact .inr (.inr rfl)
    · exact .inl rfl
  · exact .inr (.inl rfl)

set_option maxRecDepth 100000 in
set_option maxHeartbeats 4000000 in
theorem optWrites_walk (w : World) (A : Option Addr) (n c : Nat) (l : List Op1) (h : OS w w.heap.size A n c l) :
    Calls Try.prog 3 #[.slice A n c] w (TruePost w) := by
  have hn := h.1
  have hnm : n ≤ 9223372036854775807 := by have h1 := h.2.1; have h2 := h.2.2.1; unfold maxLen at h2; omega
  by_cases hlong : 40 < n
  · clear hn
    go_enter Try.func3, Try.ntmps3
    go_wp2_with fail
    refine (awake12_any w).mono ?_
    rintro e w1 ⟨rfl, hb1⟩
    go_wp2_with fail
    go_ret
    exact ⟨rfl, hb1⟩
  have hl : l.length ≤ 40 := by omega
  have HN := Lib.hid hn
  clear hn
  go_enter Try.func3, Try.ntmps3
  go_wp2_with fail
  refine (awake12_any w).mono ?_
  rintro e w1 ⟨rfl, hb1⟩
  go_wp2_with fail
  go_loop [3, 4] (fun sv iv => ∃ (s j : Nat), sv = .int .i64 s ∧ iv = .int .i64 j ∧ j ≤ n ∧ s ≤ 6000 ∧ ∀ i x, i < j → l[i]? = some x → x.body.length ≤ 2000) (fun _ iv => n - (intOf iv).toNat)
  case atStart => exact ⟨0, 0, rfl, rfl, Nat.zero_le _, by omega, fun i x hi => by omega⟩
  case round =>
    obtain ⟨s, j, rfl, rfl, hj, hs, hall⟩ := hrel
    have HA := Lib.hid hall
    clear hall
    by_cases hlt : j < n
    · obtain ⟨b, o, x, rfl, hbl, hx, h0, h1, hbs⟩ := (h.below hb1).at_ hlt
      have hjn : (0 : Int) ≤ (j : Int) ∧ (j : Int) < (n : Int) := ⟨by omega, by omega⟩
      have HX := Lib.hid hx
      have hxn := hbs.1
      have HXN := Lib.hid hxn
      clear hx hxn h0
      by_cases hbig : 2000 < x.n
      · go_wp2_with fail
        go_ret
        exact ⟨rfl, hb1⟩
      by_cases hsum : 4000 < s
      · go_wp2_with fail
        go_ret
        exact ⟨rfl, hb1⟩
      go_wp2_with fail
      go_round
      case rel =>
        refine ⟨s + x.n, j + 1, by go_num, by go_num, by omega, by omega, fun i y hi hy => ?_⟩
        by_cases e : i = j
        · subst e
          rw [HX.out] at hy
          injection hy with hy
          subst hy
          have := HXN.out
          omega
        · exact HA.out i y (by omega) hy
      case measure => simp [intOf]; omega
    · have hB : ∀ o ∈ l, o.body.length ≤ 1099511627776 := fun o ho => by
        obtain ⟨i, hi, rfl⟩ := List.mem_iff_getElem.1 ho
        have := HA.out i l[i] (by have := HN.out; omega) (List.getElem?_eq_getElem hi)
        omega
      obtain ⟨bts, er, hpo⟩ : ∃ bts er, putO (obs l) = (bts, er) := ⟨_, _, rfl⟩
      have hbl := putO_len (obs l)
      have her := putO_err (obs l)
      have hgp := get_put (obs l)
      rw [hpo] at hbl her hgp
      have HP := Lib.hid hpo
      have HGP := Lib.hid hgp
      clear hpo hgp
      have h1 := (h.below hb1).more hb1.size
      dsimp only at hbl her
      rcases her with rfl | rfl | rfl
      all_goals
        go_wp2_with fail
        refine (oput_any w1 A n c l h1 (by omega) hB).mono ?_
        rw [HP.out]
        rintro e w2 ⟨A2, n2, c2, rfl, ho2, hb2⟩
        have q2 := hb1.trans (hb2.mono hb1.size)
        have h2 := (h1.below hb2).more hb2.size
        go_wp2_with fail
        refine (own12_any w2 A n c l h2 (by omega)).mono ?_
        rintro e w3 ⟨A3, n3, c3, rfl, os3, hb3⟩
        have q3 := q2.trans (hb3.mono q2.size)
        have h3 := (h2.below hb3).more hb3.size
        have ho3 := ho2.bs.below hb3
        clear hb2 ho2 h2
        go_wp2_with fail
        refine (rput_any w3 A3 n3 c3 l os3 (by omega) hB).mono ?_
        rw [HP.out]
        rintro e w4 ⟨A4, n4, c4, rfl, ho4, hb4⟩
        have q4 := q3.trans (hb4.mono q3.size)
        have h4 := (h3.below hb4).more hb4.size
        have b4 := ((ho3.more hb3.size).below hb4).more hb4.size
        have s1 := run_str b4
        have s2 := run_str ho4.bs
        have hs : ((str bts).toList == (str bts).toList) = true := beq_self_eq_true _
        clear hb3 hb4 os3 ho3 ho4 h3
      · go_wp2_with fail
        refine (oget_u w4 A2 n2 c2 bts b4 (by omega) (obs l) 0 true (.inl ⟨HGP.out trivial, rfl, rfl⟩)).mono ?_
        rintro e w5 ⟨A5, n5, c5, l5, rfl, ho5, hl5, hb5⟩
        have q5 := q4.trans (hb5.mono q4.size)
        have h5 := (h4.below hb5).more hb5.size
        have HL5 := Lib.hid hl5
        have hs5 : l5.length ≤ 40 := by rw [← obs_length, hl5, obs_length]; exact hl
        have os5 := ho5.os
        clear hl5 hb5 ho5 h4 b4 s1 s2
        go_wp2_with fail
        refine (own12_any w5 A5 n5 c5 l5 os5 (by omega)).mono ?_
        rintro e w6 ⟨A6, n6, c6, rfl, os6, hb6⟩
        have q6 := q5.trans (hb6.mono q5.size)
        have h6 := (h5.below hb6).more hb6.size
        clear hb6 os5 h5
        go_wp2_with fail
        refine (own12_any w6 A n c l h6 (by omega)).mono ?_
        rintro e w7 ⟨A7, n7, c7, rfl, os7, hb7⟩
        have q7 := q6.trans (hb7.mono q6.size)
        have os67 := (os6.below hb7).more hb7.size
        clear hb7 os6 h6
        go_wp2_with fail
        refine (same12_any w7 A6 n6 c6 l5 os67 A7 n7 c7 l os7 (by omega) (by omega)).mono ?_
        rw [HL5.out, sameO_self]
        rintro e w8 ⟨rfl, hb8⟩
        have q8 := q7.trans (hb8.mono q7.size)
        go_wp2_with fail
        go_ret
        exact ⟨rfl, q8⟩
      · go_wp2_with fail
        go_ret
        exact ⟨rfl, q4⟩
      · go_wp2_with fail
        go_ret
        exact ⟨rfl, q4⟩
end Go.Proofs.Ytidohmcneoldcaa
