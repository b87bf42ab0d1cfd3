/-
  The walk of the statement LeaseWaits.
-/
import Derived.Test.YtjpmfmmgmlnanaaLs18
namespace Go.Proofs.Ytjpmfmmgmlnanaa
open Go.RowKit

/-- A client that waits for an offer. -/
def cW (draw now sent wait sends : Int) : Cl := ⟨lmac, 1, now, draw, ad0, ad0, ad0, ad0, 0, 0, ad0, ad0, sent, wait, sends⟩
def hW (draw : Int) : Hd := ⟨1, 0, draw, 0, 32768, ad0, ad0, ad0, ad0, lmac⟩
theorem cW_msg (draw a b c d : Int) : (cW draw a b c d).msg = (hW draw, [(53, [1]), (55, [1, 3, 6])]) := by simp [Cl.msg, cW, hW]
theorem cW_wait (draw s p k m : Int) (h0 : 1 ≤ s) (h1 : s ≤ 400) (h : s < p + k) : (cW draw (s - 1) p k m).tick s draw = (cW draw s p k m, false) := by
  have e1 : s - 1 < s := by omega
  have e2 : s ≤ 1099511627776 := by omega
  have e3 : s - p < k := by omega
  simp only [Cl.tick, Cl.time, cW, e1, e2, and_self, if_true, Cl.late, Cl.go, Cl.again, e3]
  simp
  omega
theorem cW_again (draw s p k m : Int) (h0 : 1 ≤ s) (h1 : s ≤ 400) (h : s = p + k) : (cW draw (s - 1) p k m).tick s draw = (cW draw s s (min (2 * k) 64) (m + 1), true) := by
  have e1 : s - 1 < s := by omega
  have e2 : s ≤ 1099511627776 := by omega
  have e3 : ¬ s - p < k := by omega
  simp only [Cl.tick, Cl.time, cW, e1, e2, and_self, if_true, Cl.late, Cl.go, Cl.again, e3, Cl.send]
  simp
  omega
def WtI (draw s n k : Int) (c : Cl) : Prop := (s = 0 ∧ n = 0 ∧ k = 4 ∧ c = Cl.new lmac) ∨ ∃ p m, c = cW draw (s - 1) p k m ∧ n = p + k ∧ 0 ≤ p ∧ p < s ∧ s ≤ n ∧ 4 ≤ k ∧ k ≤ 64 ∧ 0 ≤ m ∧ m ≤ s
theorem WtI.ok {draw s n k : Int} {c : Cl} (h : WtI draw s n k c) (d0 : 0 ≤ draw) (d1 : draw < 4294967296) (h1 : s ≤ 401) : c.ok := by
  rcases h with ⟨_, _, _, rfl⟩ | ⟨p, m, rfl, _, _, _, _, _, _, _, _⟩
  · exact new_ok lmac
  · constructor <;> simp only [cW] <;> omega
theorem WtI.bounds {draw s n k : Int} {c : Cl} (h : WtI draw s n k c) (h1 : s ≤ 401) : 0 ≤ s ∧ 0 ≤ n ∧ n ≤ 1000 ∧ 4 ≤ k ∧ k ≤ 64 := by
  rcases h with ⟨rfl, rfl, rfl, rfl⟩ | ⟨p, m, rfl, _, _, _, _, _, _, _, _⟩ <;> omega
theorem WtI.state {draw s n k : Int} {c : Cl} (h : WtI draw s n k c) (h1 : 1 ≤ s) : c.state = 1 := by
  rcases h with ⟨_, _, _, rfl⟩ | ⟨p, m, rfl, _, _, _, _, _, _, _, _⟩
  · omega
  · rfl
theorem WtI.tick {draw s n k : Int} {c : Cl} (h : WtI draw s n k c) (h1 : s ≤ 400) :
    (s = n ∧ ∃ c', c.tick s draw = (c', true) ∧ c'.msg = (hW draw, [(53, [1]), (55, [1, 3, 6])]) ∧ ((s = 0 ∧ k = 4 ∧ WtI draw 1 4 4 c') ∨ (0 < s ∧ 64 < 2 * k ∧ WtI draw (s + 1) (s + 64) 64 c') ∨ (0 < s ∧ 2 * k ≤ 64 ∧ WtI draw (s + 1) (s + 2 * k) (2 * k) c'))) ∨
    (s ≠ n ∧ ∃ c', c.tick s draw = (c', false) ∧ WtI draw (s + 1) n k c') := by
  rcases h with ⟨rfl, rfl, rfl, rfl⟩ | ⟨p, m, rfl, hn, h2, h3, h4, h5, h6, h7, h8⟩
  · exact .inl ⟨rfl, _, tick_new 0 draw (by decide) (by decide), cS_msg 0 draw, .inl ⟨rfl, rfl, .inr ⟨0, 1, rfl, rfl, by decide, by decide, by decide, by decide, by decide, by decide, by decide⟩⟩⟩
  · rcases Int.lt_or_eq_of_le h4 with h | h
    · refine .inr ⟨by omega, _, cW_wait draw s p k m (by omega) h1 (by omega), .inr ⟨p, m, ?_, by omega, by omega, by omega, by omega, by omega, by omega, by omega, by omega⟩⟩
      rw [Int.add_sub_cancel]
    · refine .inl ⟨h, _, cW_again draw s p k m (by omega) h1 (by omega), cW_msg _ _ _ _ _, .inr ?_⟩
      by_cases h9 : 64 < 2 * k
      · refine .inl ⟨by omega, h9, .inr ⟨s, m + 1, ?_, by omega, by omega, by omega, by omega, by omega, by omega, by omega, by omega⟩⟩
        rw [Int.add_sub_cancel, show min (2 * k) 64 = 64 by omega]
      · refine .inr ⟨by omega, by omega, .inr ⟨s, m + 1, ?_, by omega, by omega, by omega, by omega, by omega, by omega, by omega, by omega⟩⟩
        rw [Int.add_sub_cancel, show min (2 * k) 64 = 2 * k by omega]
def WRel (w : World) (g : Nat) (draw ticks : Int) (nv kv tv : Value) (wr : World) : Prop :=
  ∃ s n k c, nv = .int .i64 n ∧ kv = .int .i64 k ∧ tv = .int .i64 s ∧ WtI draw s n k c ∧ s ≤ ticks + 1 ∧ CB wr g c ∧ Below w.heap.size w wr

set_option maxRecDepth 100000 in
set_option maxHeartbeats 4000000 in
theorem leaseWaits_in (w : World) (ticks draw : Int) (h0 : 0 ≤ ticks) (h4 : ticks ≤ 400) (d0 : 0 ≤ draw) (d1 : draw < 4294967296) : Calls Try.prog 6 #[.int .i64 ticks, .int .u32 draw] w (TruePost w) := by
  have x1 : decide (ticks < 0) = false := decide_eq_false (by omega)
  have x2 : decide (400 < ticks) = false := decide_eq_false (by omega)
  go_enter Try.func6, Try.ntmps6
  go_wp2_with fail
  refine (awake16_any w).mono ?_
  rintro e w0 ⟨rfl, q0⟩
  go_wp2_with fail
  refine (lmac_any w0).mono ?_
  rintro e w1 ⟨rfl, q1⟩
  replace q1 := q0.trans (q1.mono q0.size)
  go_wp2_with fail
  refine (cnew_any w1 lmac).mono ?_
  rintro e w2 ⟨g, rfl, hg1, C2, q2⟩
  have G0 : w.heap.size ≤ g := Nat.le_trans q1.size hg1
  replace q2 := q1.trans (q2.mono q1.size)
  clear x1 x2 q0 q1 hg1
  go_wp2_with fail
  go_loopw [6, 7, 8] (fun nv kv tv wr => WRel w g draw ticks nv kv tv wr) (fun _ _ tv _ => (ticks + 1 - intOf tv).toNat)
  case atStart => exact ⟨0, 0, 4, _, rfl, rfl, rfl, .inl ⟨rfl, rfl, rfl, rfl⟩, by omega, C2, q2⟩
  case round =>
    obtain ⟨s, n, k, c, rfl, rfl, rfl, hwi, hs, C, B⟩ := hrel
    clear C2 q2
    have hb := hwi.bounds (by omega)
    have hok := hwi.ok d0 d1 (by omega)
    obtain ⟨b0, b1, b2, b3, b4⟩ := hb
    by_cases hlt : s ≤ ticks
    · have x1 : decide (s ≤ ticks) = true := decide_eq_true hlt
      rcases hwi.tick (by omega) with ⟨rfl, c', ht, hm, hw'⟩ | ⟨hne, c', ht, hw'⟩
      · go_wp2_with fail
        refine (ctick_any wr g c C s draw hok).mono ?_
        rw [ht]
        rintro e w3 ⟨v3, rfl, C3, g3, M3⟩
        replace M3 : Msl w3 wr.heap.size v3 (some c'.msg) := M3
        rw [hm] at M3
        have B3 := below_row B g3 G0 (Nat.le_refl _)
        obtain ⟨b3, A3, n3, c3, l3, rfl, hb3, P3, O3, L3⟩ := M3.some
        have t3 : typeO (obs l3) = 1 := by rw [L3, typeO_cons 1 _ (by decide) (by decide)]; rfl
        have T3 := Lib.hid t3
        have LL3 := Lib.hid L3
        clear C B g3 M3 ht hm hok t3 L3 x1
        go_upto_region 14 with fail
        have r0 : Below w3.heap.size w3 w3.drew := (Below.refl _ _).drew
        have C2 := Ext.at_ (M := fun _ => False) (w := w3.drew) P3 (fun h => h)
        have xd : ((hW draw).xid != draw) = false := bne_self_eq_false _
        have em := fun w => run_neq_mac w (hW draw).mac lmac
        rw [show meq (hW draw).mac lmac = true from (meq_iff _ _).2 rfl] at em
        refine rg_begin (fun _ => False) (by kernel_rfl) ?_
        refine rg_take (v := ?_) 0 rfl (by kernel_rfl) (by kernel_rfl) (by kernel_rfl) (fun _ _ _ h => h) (by rfl) ?_ ?_; rotate_left
        · (intro x hx; go_simp; first | done | with_reducible rfl | (rw [if_pos (by omega)]; try with_reducible rfl) | (rw [if_neg (by omega)]; try with_reducible rfl))
        try simp only [Act.put, List.setIfInBounds_toArray, List.set_cons_zero, List.set_cons_succ]
        refine rg_take (v := ?_) 1 rfl (by kernel_rfl) (by kernel_rfl) (by kernel_rfl) (fun _ _ _ h => h) (by rfl) ?_ ?_; rotate_left
        · (intro x hx; go_simp; first | done | with_reducible rfl | (rw [if_pos (by omega)]; try with_reducible rfl) | (rw [if_neg (by omega)]; try with_reducible rfl))
        try simp only [Act.put, List.setIfInBounds_toArray, List.set_cons_zero, List.set_cons_succ]
        refine rg_take (v := .agg (msC (hW draw) A3 n3 c3)) 2 rfl (by kernel_rfl) (by kernel_rfl) (by kernel_rfl) (fun _ _ _ h => h) (by rfl) ?_ ?_
        · (intro x hx; apply run_load_big; (case ho => exact rfl); (case hv => exact rfl); (case hg => exact C2 x hx); (case hu => exact Try.underlying37); (case hd => rfl); (case hi => kernel_rfl))
        try simp only [Act.put, List.setIfInBounds_toArray, List.set_cons_zero, List.set_cons_succ]
        refine rg_step 3 rfl (by kernel_rfl) (by rfl) (fun K hK => ?_)
        go_simp
        refine (type_any _ (hW draw) A3 n3 c3 l3 (O3.below r0).os (bodies_of LL3.out (by simp))).mono ?_
        rw [T3.out]
        rintro e w4 ⟨rfl, q4⟩
        have r4 := r0.trans (q4.mono r0.size)
        have f4 := Ext.cells (w := w4) (M := fun _ => False) (below_at r4 P3 (heap_lt P3)) (fun h => h)
        refine hK.out _ _ (Ext.below_all _ q4) ?_
        clear hK K; try simp only [Act.put, List.setIfInBounds_toArray, List.set_cons_zero, List.set_cons_succ]
        refine rg_take (v := ?_) 4 rfl (by kernel_rfl) (by kernel_rfl) (by kernel_rfl) (fun _ _ _ h => h) (by rfl) ?_ ?_; rotate_left
        · (intro x hx; go_simp; first | done | with_reducible rfl | (rw [if_pos (by omega)]; try with_reducible rfl) | (rw [if_neg (by omega)]; try with_reducible rfl))
        try simp only [Act.put, List.setIfInBounds_toArray, List.set_cons_zero, List.set_cons_succ]
        refine rg_take (v := ?_) 5 rfl (by kernel_rfl) (by kernel_rfl) (by kernel_rfl) (fun _ _ _ h => h) (by rfl) ?_ ?_; rotate_left
        · (intro x hx; go_simp; first | done | with_reducible rfl | (rw [if_pos (by omega)]; try with_reducible rfl) | (rw [if_neg (by omega)]; try with_reducible rfl))
        try simp only [Act.put, List.setIfInBounds_toArray, List.set_cons_zero, List.set_cons_succ]
        refine rg_take (v := ?_) 6 rfl (by kernel_rfl) (by kernel_rfl) (by kernel_rfl) (fun _ _ _ h => h) (by rfl) ?_ ?_; rotate_left
        · (intro x hx; go_simp; first | done | with_reducible rfl | (rw [if_pos (by omega)]; try with_reducible rfl) | (rw [if_neg (by omega)]; try with_reducible rfl))
        try simp only [Act.put, List.setIfInBounds_toArray, List.set_cons_zero, List.set_cons_succ]
        refine rg_take (v := ?_) 7 rfl (by kernel_rfl) (by kernel_rfl) (by kernel_rfl) (fun _ _ _ h => h) (by rfl) ?_ ?_; rotate_left
        · (intro x hx; go_simp; first | done | with_reducible rfl | (rw [if_pos (by omega)]; try with_reducible rfl) | (rw [if_neg (by omega)]; try with_reducible rfl))
        try simp only [Act.put, List.setIfInBounds_toArray, List.set_cons_zero, List.set_cons_succ]
        refine rg_take (v := ?_) 8 rfl (by kernel_rfl) (by kernel_rfl) (by kernel_rfl) (fun _ _ _ h => h) (by rfl) ?_ ?_; rotate_left
        · (intro x hx; go_simp; first | done | with_reducible rfl | (rw [if_pos (by omega)]; try with_reducible rfl) | (rw [if_neg (by omega)]; try with_reducible rfl))
        try simp only [Act.put, List.setIfInBounds_toArray, List.set_cons_zero, List.set_cons_succ]
        refine rg_take (v := ?_) 9 rfl (by kernel_rfl) (by kernel_rfl) (by kernel_rfl) (fun _ _ _ h => h) (by rfl) ?_ ?_; rotate_left
        · (intro x hx; go_simp; first | done | with_reducible rfl | (rw [if_pos (by omega)]; try with_reducible rfl) | (rw [if_neg (by omega)]; try with_reducible rfl))
        try simp only [Act.put, List.setIfInBounds_toArray, List.set_cons_zero, List.set_cons_succ]
        refine rg_take (v := ?_) 10 rfl (by kernel_rfl) (by kernel_rfl) (by kernel_rfl) (fun _ _ _ h => h) (by rfl) ?_ ?_; rotate_left
        · (intro x hx; go_simp; first | done | with_reducible rfl | (rw [if_pos (by omega)]; try with_reducible rfl) | (rw [if_neg (by omega)]; try with_reducible rfl))
        try simp only [Act.put, List.setIfInBounds_toArray, List.set_cons_zero, List.set_cons_succ]
        refine rg_take (v := ?_) 11 rfl (by kernel_rfl) (by kernel_rfl) (by kernel_rfl) (fun _ _ _ h => h) (by rfl) ?_ ?_; rotate_left
        · (intro x hx; go_simp; first | done | with_reducible rfl | (rw [if_pos (by omega)]; try with_reducible rfl) | (rw [if_neg (by omega)]; try with_reducible rfl))
        try simp only [Act.put, List.setIfInBounds_toArray, List.set_cons_zero, List.set_cons_succ]
        refine rg_take (v := ?_) 12 rfl (by kernel_rfl) (by kernel_rfl) (by kernel_rfl) (fun _ _ _ h => h) (by rfl) ?_ ?_; rotate_left
        · (intro x hx; go_simp; first | done | with_reducible rfl | (rw [if_pos (by omega)]; try with_reducible rfl) | (rw [if_neg (by omega)]; try with_reducible rfl))
        try simp only [Act.put, List.setIfInBounds_toArray, List.set_cons_zero, List.set_cons_succ]
        refine rg_take (v := ?_) 13 rfl (by kernel_rfl) (by kernel_rfl) (by kernel_rfl) (fun _ _ _ h => h) (by rfl) ?_ ?_; rotate_left
        · (intro x hx; go_simp; first | done | with_reducible rfl | (rw [if_pos (by omega)]; try with_reducible rfl) | (rw [if_neg (by omega)]; try with_reducible rfl))
        try simp only [Act.put, List.setIfInBounds_toArray, List.set_cons_zero, List.set_cons_succ]
        refine rg_take (v := ?_) 14 rfl (by kernel_rfl) (by kernel_rfl) (by kernel_rfl) (fun _ _ _ h => h) (by rfl) ?_ ?_; rotate_left
        · (intro x hx; go_simp; first | done | with_reducible rfl | (rw [if_pos (by omega)]; try with_reducible rfl) | (rw [if_neg (by omega)]; try with_reducible rfl))
        try simp only [Act.put, List.setIfInBounds_toArray, List.set_cons_zero, List.set_cons_succ]
        refine rg_take (v := ?_) 15 rfl (by kernel_rfl) (by kernel_rfl) (by kernel_rfl) (fun _ _ _ h => h) (by rfl) ?_ ?_; rotate_left
        · (intro x hx; go_simp; first | done | with_reducible rfl | (rw [if_pos (by omega)]; try with_reducible rfl) | (rw [if_neg (by omega)]; try with_reducible rfl))
        try simp only [Act.put, List.setIfInBounds_toArray, List.set_cons_zero, List.set_cons_succ]
        refine rg_take (v := ?_) 16 rfl (by kernel_rfl) (by kernel_rfl) (by kernel_rfl) (fun _ _ _ h => h) (by rfl) ?_ ?_; rotate_left
        · (intro x hx; go_simp; first | done | with_reducible rfl | (rw [if_pos (by omega)]; try with_reducible rfl) | (rw [if_neg (by omega)]; try with_reducible rfl))
        try simp only [Act.put, List.setIfInBounds_toArray, List.set_cons_zero, List.set_cons_succ]
        refine rg_take (v := ?_) 17 rfl (by kernel_rfl) (by kernel_rfl) (by kernel_rfl) (fun _ _ _ h => h) (by rfl) ?_ ?_; rotate_left
        · (intro x hx; go_simp; first | done | with_reducible rfl | (rw [if_pos (by omega)]; try with_reducible rfl) | (rw [if_neg (by omega)]; try with_reducible rfl))
        try simp only [Act.put, List.setIfInBounds_toArray, List.set_cons_zero, List.set_cons_succ]
        refine rg_step 18 rfl (by kernel_rfl) (by rfl) (fun K hK => ?_)
        go_simp
        refine (lmac_any _).mono ?_
        rintro e w5 ⟨rfl, q5⟩
        have r5 := r4.trans (q5.mono r4.size)
        refine hK.out _ _ (Ext.below_all _ q5) ?_
        clear hK K; try simp only [Act.put, List.setIfInBounds_toArray, List.set_cons_zero, List.set_cons_succ]
        refine rg_take (v := ?_) 19 rfl (by kernel_rfl) (by kernel_rfl) (by kernel_rfl) (fun _ _ _ h => h) (by rfl) ?_ ?_; rotate_left
        · (intro x hx; go_simp; first | done | with_reducible rfl | (rw [if_pos (by omega)]; try with_reducible rfl) | (rw [if_neg (by omega)]; try with_reducible rfl))
        try simp only [Act.put, List.setIfInBounds_toArray, List.set_cons_zero, List.set_cons_succ]
        refine rg_take (v := ?_) 20 rfl (by kernel_rfl) (by kernel_rfl) (by kernel_rfl) (fun _ _ _ h => h) (by rfl) ?_ ?_; rotate_left
        · (intro x hx; go_simp; first | done | with_reducible rfl | (rw [if_pos (by omega)]; try with_reducible rfl) | (rw [if_neg (by omega)]; try with_reducible rfl))
        try simp only [Act.put, List.setIfInBounds_toArray, List.set_cons_zero, List.set_cons_succ]
        refine rg_done (by kernel_rfl) ?_
        have C5 := C3.below r5
        have B5 := B3.trans (r5.mono B3.size)
        clear C2 f4 em P3 O3
        rcases hw' with ⟨rfl, rfl, hw'⟩ | ⟨k0, k1, hw'⟩ | ⟨k0, k1, hw'⟩
        · go_wp2_with fail
          go_roundw
          case rel => exact ⟨1, 4, 4, c', rfl, rfl, rfl, hw', by omega, C5, B5⟩
          case measure => simp [intOf]; omega
        · have y1 : decide (0 < s) = true := decide_eq_true k0
          have y2 : decide (64 < 2 * k) = true := decide_eq_true k1
          go_wp2_with fail
          go_roundw
          case rel => exact ⟨s + 1, s + 64, 64, c', rfl, rfl, rfl, hw', by omega, C5, B5⟩
          case measure => simp [intOf]; omega
        · have y1 : decide (0 < s) = true := decide_eq_true k0
          have y2 : decide (64 < 2 * k) = false := decide_eq_false (by omega)
          go_wp2_with fail
          go_roundw
          case rel => exact ⟨s + 1, s + 2 * k, 2 * k, c', rfl, rfl, rfl, hw', by omega, C5, B5⟩
          case measure => simp [intOf]; omega
      · have x2 : (s == n) = false := by rw [beq_eq_false_iff_ne]; exact hne
        go_wp2_with fail
        refine (ctick_any wr g c C s draw hok).mono ?_
        rw [ht]
        rintro e w3 ⟨v3, rfl, C3, g3, M3⟩
        have B3 := below_row B g3 G0 (Nat.le_refl _)
        have hv : v3 = .slice none 0 0 := M3
        subst hv
        clear C B g3 M3 ht hok
        go_wp2_with fail
        go_roundw
        case rel => exact ⟨s + 1, n, k, c', rfl, rfl, rfl, hw', by omega, C3, B3⟩
        case measure => simp [intOf]; omega
    · have x1 : decide (s ≤ ticks) = false := decide_eq_false hlt
      have hst := hwi.state (by omega)
      go_wp2_with fail
      refine (cstate_any wr g _ C).mono ?_
      rintro e w12 ⟨rfl, rfl⟩
      rw [hst]
      go_wp2_with fail
      go_ret
      exact ⟨rfl, B⟩

theorem leaseWaits_out (w : World) (ticks draw : Int) (h : ticks < 0 ∨ 400 < ticks) : Calls Try.prog 6 #[.int .i64 ticks, .int .u32 draw] w (TruePost w) := by
  rcases Int.lt_or_le ticks 0 with k1 | k1
  case' inl =>
    have d1 : decide (ticks < 0) = true := decide_eq_true k1
  case' inr =>
    have d1 : decide (ticks < 0) = false := decide_eq_false (by omega)
    have d2 : decide (400 < ticks) = true := decide_eq_true (by omega)
  all_goals
    go_enter Try.func6, Try.ntmps6
    go_wp2_with fail
    refine (awake16_any w).mono ?_
    rintro e w0 ⟨rfl, q0⟩
    go_wp2_with fail
    go_ret
    exact ⟨rfl, q0⟩
theorem leaseWaits_all (w : World) (ticks : Int) (w0 : (Lit.int .i64 ticks).wf = true) (draw : Int) (w1 : (Lit.int .u32 draw).wf = true) : Calls Try.prog 6 #[.int .i64 ticks, .int .u32 draw] w (TruePost w) := by
  have hd := wf_u32 w1
  by_cases h : ticks < 0 ∨ 400 < ticks
  · exact leaseWaits_out w ticks draw h
  · exact leaseWaits_in w ticks draw (by omega) (by omega) hd.1 hd.2
end Go.Proofs.Ytjpmfmmgmlnanaa
