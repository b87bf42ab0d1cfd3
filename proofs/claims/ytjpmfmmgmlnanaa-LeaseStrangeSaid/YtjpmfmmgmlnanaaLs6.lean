/-
  Contract of the client's Tick.
-/
import Derived.Test.YtjpmfmmgmlnanaaLs5
namespace Go.Proofs.Ytjpmfmmgmlnanaa
open Go.RowKit

theorem Cl.ok.time {c : Cl} (k : c.ok) (t : Int) : (c.time t).ok := by
  unfold Cl.time
  split
  · rename_i h
    exact ⟨by have := k.now0; dsimp only; omega, h.2, k.sent0, k.sent1, k.had0, k.had1, k.til1, k.wait0, k.wait1, k.sends0, k.sends1, k.xid0, k.xid1⟩
  · exact k
def tickMs (r : Cl × Bool) : Option (Hd × List Ob) := if r.2 = true then some r.1.msg else none
theorem CTPost.yes {w w' : World} {g : Nat} {c' : Cl} {e : Ending} (h : CMPost w g c' (some c'.msg) e w') : CTPost w g (c', true) e w' := h

set_option maxRecDepth 100000 in
set_option maxHeartbeats 4000000 in
theorem ctick_any (w : World) (g : Nat) (c : Cl) (h : CB w g c) (t draw : Int) (k : c.ok) :
    Calls Try.prog 12 #[.pointer (some ⟨g, 0, none⟩), .int .i64 t, .int .u32 draw] w (CTPost w g (c.tick t draw)) := by
  obtain ⟨r, hr⟩ : ∃ r, c.tick t draw = r := ⟨_, rfl⟩
  rw [hr]
  have HR := Lib.hid hr
  clear hr
  have k1 := k.time t
  go_enter Try.func12, Try.ntmps12
  go_wp2_with fail
  refine (ctime_any w g c t h).mono ?_
  rintro e w1 ⟨rfl, h1, g1⟩
  obtain ⟨c1, hc1⟩ : ∃ c1, c.time t = c1 := ⟨_, rfl⟩
  have hr := HR.out
  rw [Cl.tick, hc1] at hr
  rw [hc1] at h1 k1 ⊢
  clear hc1 HR h k
  obtain ⟨now, hnow⟩ : ∃ now, c1.now = now := ⟨_, rfl⟩
  rw [hnow] at hr ⊢
  have hn0 : 0 ≤ now := by rw [← hnow]; exact k1.now0
  have hn1 : now ≤ 1099511627776 := by rw [← hnow]; exact k1.now1
  clear hnow
  have HR := Lib.hid hr
  clear hr
  obtain ⟨hc, _⟩ := cells_of h1
  have d6 : w1.cell? ⟨g, 6, none⟩ = some (.int .i64 c1.state) := hc 6
  have d25 : w1.cell? ⟨g, 25, none⟩ = some (.int .i64 c1.til) := hc 25
  have D6 := Lib.hid d6
  clear hc
  by_cases hl : 3 ≤ c1.state ∧ c1.til ≤ now
  · have hr := HR.out
    rw [Cl.late, if_pos hl, Cl.go, if_pos (show c1.lose.state = 0 from rfl)] at hr
    have HR2 := Lib.hid hr
    have t1 : decide (3 ≤ c1.state) = true := decide_eq_true hl.1
    have t2 : decide (c1.til ≤ now) = true := decide_eq_true hl.2
    clear hr HR hl
    go_wp2_with fail
    refine (close_any w1 g c1 h1).mono ?_
    rintro e w2 ⟨rfl, h2, g2⟩
    obtain ⟨hc, _⟩ := cells_of h2
    have e6 : w2.cell? ⟨g, 6, none⟩ = some (.int .i64 0) := hc 6
    clear hc d6 d25 D6
    go_wp2_with (((with_reducible apply at_store_one 30); (case hx => exact rfl); (case hy => exact rfl); (case hg => exact h2); (case hle => simp); (case hv => rfl); (case hi => kernel_rfl); (case h1 => rfl); (intro w3 g3 P3; replace P3 := Lib.hid P3)); (refine Hid.out ?_))
    refine Lib.hid ?_
    have P3' : CB w3 g { c1.lose with xid := draw } := P3.out
    clear P3 e6 h2
    go_wp2_with fail
    refine (cbegin_any w3 g _ P3' 1 now 4).mono ?_
    rintro e w4 ⟨v, rfl, hc4, g4, hm4⟩
    go_wp2_with fail
    go_ret
    rw [← HR2.out]
    exact CTPost.yes (CMPost.behind (grown_trans (grown_trans g1 g2) g3) ⟨v, rfl, hc4, g4, hm4⟩)
  · have hr := HR.out
    rw [Cl.late, if_neg hl, Cl.go] at hr
    have HR2 := Lib.hid hr
    clear hr HR
    by_cases s0 : c1.state = 0
    · have hr := HR2.out
      rw [if_pos s0] at hr
      have HR3 := Lib.hid hr
      rw [s0] at d6
      clear hr HR2 hl D6 s0
      go_wp2_with (((with_reducible apply at_store_one 30); (case hx => exact rfl); (case hy => exact rfl); (case hg => exact h1); (case hle => simp); (case hv => rfl); (case hi => kernel_rfl); (case h1 => rfl); (intro w3 g3 P3; replace P3 := Lib.hid P3)); (refine Hid.out ?_))
      refine Lib.hid ?_
      have P3' : CB w3 g { c1 with xid := draw } := P3.out
      clear P3 d6 d25
      go_wp2_with fail
      refine (cbegin_any w3 g _ P3' 1 now 4).mono ?_
      rintro e w4 ⟨v, rfl, hc4, g4, hm4⟩
      go_wp2_with fail
      go_ret
      rw [← HR3.out]
      exact CTPost.yes (CMPost.behind (grown_trans g1 g3) ⟨v, rfl, hc4, g4, hm4⟩)
    · have hr := HR2.out
      rw [if_neg s0] at hr
      have HR3 := Lib.hid hr
      clear hr HR2
      have u0 : (c1.state == 0) = false := by rw [beq_eq_false_iff_ne]; exact s0
      have k3 := k1.had0
      have k4 := k1.had1
      have k5 := k1.til1
      by_cases s3 : c1.state = 3
      · have hr := HR3.out
        rw [if_pos s3] at hr
        have HR4 := Lib.hid hr
        have hnl : ¬ c1.til ≤ now := fun hh => hl ⟨by omega, hh⟩
        have t2 : decide (c1.til ≤ now) = false := decide_eq_false hnl
        rw [s3] at d6
        clear hr HR3 hl D6 s0 u0 s3 hnl
        obtain ⟨q, hq⟩ : ∃ q, (c1.til - c1.had) / 2 = q := ⟨_, rfl⟩
        have HQ := Lib.hid hq
        have e1 : Int.tdiv (c1.til - c1.had) 2 = q := by rw [← hq, Int.tdiv_eq_ediv_of_nonneg (by omega)]
        have hq0 : 0 ≤ q ∧ q ≤ 2199023255552 := by omega
        have e2 : IntKind.i64.wrap q = q := IntWalk.i64_in _ (by omega)
        have e3 : IntKind.i64.wrap (c1.had + q) = c1.had + q := IntWalk.i64_in _ (by omega)
        clear hq
        have gcs := Ext.cells (w := w1.drew) (M := fun _ => False) h1 (fun h => h)
        go_upto_region 9 with fail
        by_cases hlt : now < c1.had + q
        · have t3 : decide (now < c1.had + q) = true := decide_eq_true hlt
          have hr := HR4.out
          rw [HQ.out, if_pos hlt] at hr
          have HR5 := Lib.hid hr
          clear hr HR4
          refine rg_begin (fun _ => False) (by kernel_rfl) ?_
          refine rg_take (v := ?_) 0 rfl (by kernel_rfl) (by kernel_rfl) (by kernel_rfl) (fun _ _ _ h => h) (by rfl) ?_ ?_; rotate_left
          · (intro x hx; go_simp; first | done | with_reducible rfl | (rw [if_pos (by omega)]; try with_reducible rfl) | (rw [if_neg (by omega)]; try with_reducible rfl))
          try simp only [Act.put, List.setIfInBounds_toArray, List.set_cons_zero, List.set_cons_succ]
          refine rg_take (v := ?_) 1 rfl (by kernel_rfl) (by kernel_rfl) (by kernel_rfl) (fun _ _ _ h => h) (by rfl) ?_ ?_; rotate_left
          · (intro x hx; go_simp; first | done | with_reducible rfl | (rw [if_pos (by omega)]; try with_reducible rfl) | (rw [if_neg (by omega)]; try with_reducible rfl))
          try simp only [Act.put, List.setIfInBounds_toArray, List.set_cons_zero, List.set_cons_succ]
          refine rg_take (v := ?_) 2 rfl (by kernel_rfl) (by kernel_rfl) (by kernel_rfl) (fun _ _ _ h => h) (by rfl) ?_ ?_; rotate_left
          · (intro x hx; go_simp; first | done | with_reducible rfl | (rw [if_pos (by omega)]; try with_reducible rfl) | (rw [if_neg (by omega)]; try with_reducible rfl))
          try simp only [Act.put, List.setIfInBounds_toArray, List.set_cons_zero, List.set_cons_succ]
          refine rg_take (v := ?_) 3 rfl (by kernel_rfl) (by kernel_rfl) (by kernel_rfl) (fun _ _ _ h => h) (by rfl) ?_ ?_; rotate_left
          · (intro x hx; go_simp; first | done | with_reducible rfl | (rw [if_pos (by omega)]; try with_reducible rfl) | (rw [if_neg (by omega)]; try with_reducible rfl))
          try simp only [Act.put, List.setIfInBounds_toArray, List.set_cons_zero, List.set_cons_succ]
          refine rg_take (v := ?_) 4 rfl (by kernel_rfl) (by kernel_rfl) (by kernel_rfl) (fun _ _ _ h => h) (by rfl) ?_ ?_; rotate_left
          · (intro x hx; go_simp; first | done | with_reducible rfl | (rw [if_pos (by omega)]; try with_reducible rfl) | (rw [if_neg (by omega)]; try with_reducible rfl))
          try simp only [Act.put, List.setIfInBounds_toArray, List.set_cons_zero, List.set_cons_succ]
          refine rg_take (v := ?_) 5 rfl (by kernel_rfl) (by kernel_rfl) (by kernel_rfl) (fun _ _ _ h => h) (by rfl) ?_ ?_; rotate_left
          · (intro x hx; go_simp; first | done | with_reducible rfl | (rw [if_pos (by omega)]; try with_reducible rfl) | (rw [if_neg (by omega)]; try with_reducible rfl))
          try simp only [Act.put, List.setIfInBounds_toArray, List.set_cons_zero, List.set_cons_succ]
          refine rg_step 6 rfl (by kernel_rfl) (by rfl) (fun K hK => ?_)
          go_simp
          refine (csecs_any w1.drew g c1 h1 k1).mono ?_
          rintro e w2 ⟨rfl, hb2⟩
          refine hK.out _ _ (Ext.below_all _ hb2) ?_
          clear hK K; try simp only [Act.put, List.setIfInBounds_toArray, List.set_cons_zero, List.set_cons_succ]
          refine rg_take (v := ?_) 7 rfl (by kernel_rfl) (by kernel_rfl) (by kernel_rfl) (fun _ _ _ h => h) (by rfl) ?_ ?_; rotate_left
          · (intro x hx; go_simp; first | done | with_reducible rfl | (rw [if_pos (by omega)]; try with_reducible rfl) | (rw [if_neg (by omega)]; try with_reducible rfl))
          try simp only [Act.put, List.setIfInBounds_toArray, List.set_cons_zero, List.set_cons_succ]
          refine rg_take (v := ?_) 8 rfl (by kernel_rfl) (by kernel_rfl) (by kernel_rfl) (fun _ _ _ h => h) (by rfl) ?_ ?_; rotate_left
          · (intro x hx; go_simp; first | done | with_reducible rfl | (rw [if_pos (by omega)]; try with_reducible rfl) | (rw [if_neg (by omega)]; try with_reducible rfl))
          try simp only [Act.put, List.setIfInBounds_toArray, List.set_cons_zero, List.set_cons_succ]
          refine rg_take (v := ?_) 9 rfl (by kernel_rfl) (by kernel_rfl) (by kernel_rfl) (fun _ _ _ h => h) (by rfl) ?_ ?_; rotate_left
          · (intro x hx; go_simp; first | done | with_reducible rfl | (rw [if_pos (by omega)]; try with_reducible rfl) | (rw [if_neg (by omega)]; try with_reducible rfl))
          try simp only [Act.put, List.setIfInBounds_toArray, List.set_cons_zero, List.set_cons_succ]
          refine rg_done (by kernel_rfl) ?_
          go_wp2_with fail
          go_ret
          rw [← HR5.out]
          exact CTPost.no (CB.below (w := w1.drew) h1 hb2) (grown_trans (grown_drew g1) (grown_of_below _ hb2))
        · have t3 : decide (now < c1.had + q) = false := decide_eq_false hlt
          have hr := HR4.out
          rw [HQ.out, if_neg hlt] at hr
          have HR5 := Lib.hid hr
          clear hr HR4
          refine rg_begin (fun _ => False) (by kernel_rfl) ?_
          refine rg_take (v := ?_) 0 rfl (by kernel_rfl) (by kernel_rfl) (by kernel_rfl) (fun _ _ _ h => h) (by rfl) ?_ ?_; rotate_left
          · (intro x hx; go_simp; first | done | with_reducible rfl | (rw [if_pos (by omega)]; try with_reducible rfl) | (rw [if_neg (by omega)]; try with_reducible rfl))
          try simp only [Act.put, List.setIfInBounds_toArray, List.set_cons_zero, List.set_cons_succ]
          refine rg_take (v := ?_) 1 rfl (by kernel_rfl) (by kernel_rfl) (by kernel_rfl) (fun _ _ _ h => h) (by rfl) ?_ ?_; rotate_left
          · (intro x hx; go_simp; first | done | with_reducible rfl | (rw [if_pos (by omega)]; try with_reducible rfl) | (rw [if_neg (by omega)]; try with_reducible rfl))
          try simp only [Act.put, List.setIfInBounds_toArray, List.set_cons_zero, List.set_cons_succ]
          refine rg_take (v := ?_) 2 rfl (by kernel_rfl) (by kernel_rfl) (by kernel_rfl) (fun _ _ _ h => h) (by rfl) ?_ ?_; rotate_left
          · (intro x hx; go_simp; first | done | with_reducible rfl | (rw [if_pos (by omega)]; try with_reducible rfl) | (rw [if_neg (by omega)]; try with_reducible rfl))
          try simp only [Act.put, List.setIfInBounds_toArray, List.set_cons_zero, List.set_cons_succ]
          refine rg_take (v := ?_) 3 rfl (by kernel_rfl) (by kernel_rfl) (by kernel_rfl) (fun _ _ _ h => h) (by rfl) ?_ ?_; rotate_left
          · (intro x hx; go_simp; first | done | with_reducible rfl | (rw [if_pos (by omega)]; try with_reducible rfl) | (rw [if_neg (by omega)]; try with_reducible rfl))
          try simp only [Act.put, List.setIfInBounds_toArray, List.set_cons_zero, List.set_cons_succ]
          refine rg_take (v := ?_) 4 rfl (by kernel_rfl) (by kernel_rfl) (by kernel_rfl) (fun _ _ _ h => h) (by rfl) ?_ ?_; rotate_left
          · (intro x hx; go_simp; first | done | with_reducible rfl | (rw [if_pos (by omega)]; try with_reducible rfl) | (rw [if_neg (by omega)]; try with_reducible rfl))
          try simp only [Act.put, List.setIfInBounds_toArray, List.set_cons_zero, List.set_cons_succ]
          refine rg_take (v := ?_) 5 rfl (by kernel_rfl) (by kernel_rfl) (by kernel_rfl) (fun _ _ _ h => h) (by rfl) ?_ ?_; rotate_left
          · (intro x hx; go_simp; first | done | with_reducible rfl | (rw [if_pos (by omega)]; try with_reducible rfl) | (rw [if_neg (by omega)]; try with_reducible rfl))
          try simp only [Act.put, List.setIfInBounds_toArray, List.set_cons_zero, List.set_cons_succ]
          refine rg_step 6 rfl (by kernel_rfl) (by rfl) (fun K hK => ?_)
          go_simp
          refine (csecs_any w1.drew g c1 h1 k1).mono ?_
          rintro e w2 ⟨rfl, hb2⟩
          refine hK.out _ _ (Ext.below_all _ hb2) ?_
          clear hK K; try simp only [Act.put, List.setIfInBounds_toArray, List.set_cons_zero, List.set_cons_succ]
          refine rg_take (v := ?_) 7 rfl (by kernel_rfl) (by kernel_rfl) (by kernel_rfl) (fun _ _ _ h => h) (by rfl) ?_ ?_; rotate_left
          · (intro x hx; go_simp; first | done | with_reducible rfl | (rw [if_pos (by omega)]; try with_reducible rfl) | (rw [if_neg (by omega)]; try with_reducible rfl))
          try simp only [Act.put, List.setIfInBounds_toArray, List.set_cons_zero, List.set_cons_succ]
          refine rg_take (v := ?_) 8 rfl (by kernel_rfl) (by kernel_rfl) (by kernel_rfl) (fun _ _ _ h => h) (by rfl) ?_ ?_; rotate_left
          · (intro x hx; go_simp; first | done | with_reducible rfl | (rw [if_pos (by omega)]; try with_reducible rfl) | (rw [if_neg (by omega)]; try with_reducible rfl))
          try simp only [Act.put, List.setIfInBounds_toArray, List.set_cons_zero, List.set_cons_succ]
          refine rg_take (v := ?_) 9 rfl (by kernel_rfl) (by kernel_rfl) (by kernel_rfl) (fun _ _ _ h => h) (by rfl) ?_ ?_; rotate_left
          · (intro x hx; go_simp; first | done | with_reducible rfl | (rw [if_pos (by omega)]; try with_reducible rfl) | (rw [if_neg (by omega)]; try with_reducible rfl))
          try simp only [Act.put, List.setIfInBounds_toArray, List.set_cons_zero, List.set_cons_succ]
          refine rg_done (by kernel_rfl) ?_
          have h2 : CB w2 g c1 := CB.below (w := w1.drew) h1 hb2
          have gg := grown_trans (grown_drew g1) (grown_of_below (some g) hb2)
          clear e1 e2 e3 gcs hb2 h1 d25
          go_wp2_with (((with_reducible apply at_store_one 30); (case hx => exact rfl); (case hy => exact rfl); (case hg => exact h2); (case hle => simp); (case hv => rfl); (case hi => kernel_rfl); (case h1 => rfl); (intro w3 g3 P3; replace P3 := Lib.hid P3)); (refine Hid.out ?_))
          refine Lib.hid ?_
          have P3' : CB w3 g { c1 with xid := draw } := P3.out
          clear P3 h2
          go_wp2_with fail
          refine (cbegin_any w3 g _ P3' 4 now 60).mono ?_
          rintro e w4 ⟨v, rfl, hc4, g4, hm4⟩
          go_wp2_with fail
          go_ret
          rw [← HR5.out]
          exact CTPost.yes (CMPost.behind (grown_trans gg g3) ⟨v, rfl, hc4, g4, hm4⟩)
      · have hr := HR3.out
        rw [if_neg s3] at hr
        have HR4 := Lib.hid hr
        have u3 : (c1.state == 3) = false := by rw [beq_eq_false_iff_ne]; exact s3
        clear hr HR3
        have hla : (decide (3 ≤ c1.state) = true ∧ decide (c1.til ≤ now) = false) ∨ decide (3 ≤ c1.state) = false := by
          by_cases hs : 3 ≤ c1.state
          · exact .inl ⟨decide_eq_true hs, decide_eq_false fun hh => hl ⟨hs, hh⟩⟩
          · exact .inr (decide_eq_false hs)
        clear hl s0 s3
        by_cases s4 : c1.state = 4
        · have u4 : (c1.state == 4) = true := by rw [s4]; rfl
          have t2 : decide (c1.til ≤ now) = false := by
            rcases hla with hla | hla
            · exact hla.2
            · rw [s4] at hla; cases hla
          have hr := HR4.out
          rw [s4] at d6
          clear hr hla u0 u3 u4
          obtain ⟨q, hq⟩ : ∃ q, (c1.til - c1.had) * 7 / 8 = q := ⟨_, rfl⟩
          have HQ := Lib.hid hq
          have e0 : IntKind.i64.wrap ((c1.til - c1.had) * 7) = (c1.til - c1.had) * 7 := IntWalk.i64_in _ (by omega)
          have e1 : Int.tdiv ((c1.til - c1.had) * 7) 8 = q := by rw [← hq, Int.tdiv_eq_ediv_of_nonneg (by omega)]
          have hq0 : 0 ≤ q ∧ q ≤ 2199023255552 := by omega
          have e2 : IntKind.i64.wrap q = q := IntWalk.i64_in _ (by omega)
          have e3 : IntKind.i64.wrap (c1.had + q) = c1.had + q := IntWalk.i64_in _ (by omega)
          clear hq
          have gcs := Ext.cells (w := w1.drew) (M := fun _ => False) h1 (fun h => h)
          have S4 := Lib.hid s4
          clear s4
          go_upto_region 14 with fail
          by_cases hlt : c1.had + q ≤ now
          · have t3 : decide (c1.had + q ≤ now) = true := decide_eq_true hlt
            have hr := HR4.out
            rw [HQ.out, if_pos ⟨S4.out, hlt⟩] at hr
            have HR5 := Lib.hid hr
            clear hr HR4
            refine rg_begin (fun _ => False) (by kernel_rfl) ?_
            refine rg_take (v := ?_) 0 rfl (by kernel_rfl) (by kernel_rfl) (by kernel_rfl) (fun _ _ _ h => h) (by rfl) ?_ ?_; rotate_left
            · (intro x hx; go_simp; first | done | with_reducible rfl | (rw [if_pos (by omega)]; try with_reducible rfl) | (rw [if_neg (by omega)]; try with_reducible rfl))
            try simp only [Act.put, List.setIfInBounds_toArray, List.set_cons_zero, List.set_cons_succ]
            refine rg_take (v := ?_) 1 rfl (by kernel_rfl) (by kernel_rfl) (by kernel_rfl) (fun _ _ _ h => h) (by rfl) ?_ ?_; rotate_left
            · (intro x hx; go_simp; first | done | with_reducible rfl | (rw [if_pos (by omega)]; try with_reducible rfl) | (rw [if_neg (by omega)]; try with_reducible rfl))
            try simp only [Act.put, List.setIfInBounds_toArray, List.set_cons_zero, List.set_cons_succ]
            refine rg_take (v := ?_) 2 rfl (by kernel_rfl) (by kernel_rfl) (by kernel_rfl) (fun _ _ _ h => h) (by rfl) ?_ ?_; rotate_left
            · (intro x hx; go_simp; first | done | with_reducible rfl | (rw [if_pos (by omega)]; try with_reducible rfl) | (rw [if_neg (by omega)]; try with_reducible rfl))
            try simp only [Act.put, List.setIfInBounds_toArray, List.set_cons_zero, List.set_cons_succ]
            refine rg_take (v := ?_) 3 rfl (by kernel_rfl) (by kernel_rfl) (by kernel_rfl) (fun _ _ _ h => h) (by rfl) ?_ ?_; rotate_left
            · (intro x hx; go_simp; first | done | with_reducible rfl | (rw [if_pos (by omega)]; try with_reducible rfl) | (rw [if_neg (by omega)]; try with_reducible rfl))
            try simp only [Act.put, List.setIfInBounds_toArray, List.set_cons_zero, List.set_cons_succ]
            refine rg_take (v := ?_) 4 rfl (by kernel_rfl) (by kernel_rfl) (by kernel_rfl) (fun _ _ _ h => h) (by rfl) ?_ ?_; rotate_left
            · (intro x hx; go_simp; first | done | with_reducible rfl | (rw [if_pos (by omega)]; try with_reducible rfl) | (rw [if_neg (by omega)]; try with_reducible rfl))
            try simp only [Act.put, List.setIfInBounds_toArray, List.set_cons_zero, List.set_cons_succ]
            refine rg_take (v := ?_) 5 rfl (by kernel_rfl) (by kernel_rfl) (by kernel_rfl) (fun _ _ _ h => h) (by rfl) ?_ ?_; rotate_left
            · (intro x hx; go_simp; first | done | with_reducible rfl | (rw [if_pos (by omega)]; try with_reducible rfl) | (rw [if_neg (by omega)]; try with_reducible rfl))
            try simp only [Act.put, List.setIfInBounds_toArray, List.set_cons_zero, List.set_cons_succ]
            refine rg_step 6 rfl (by kernel_rfl) (by rfl) (fun K hK => ?_)
            go_simp
            refine (csecs_any w1.drew g c1 h1 k1).mono ?_
            rintro e w2 ⟨rfl, hb2⟩
            refine hK.out _ _ (Ext.below_all _ hb2) ?_
            clear hK K; try simp only [Act.put, List.setIfInBounds_toArray, List.set_cons_zero, List.set_cons_succ]
            refine rg_take (v := ?_) 7 rfl (by kernel_rfl) (by kernel_rfl) (by kernel_rfl) (fun _ _ _ h => h) (by rfl) ?_ ?_; rotate_left
            · (intro x hx; go_simp; first | done | with_reducible rfl | (rw [if_pos (by omega)]; try with_reducible rfl) | (rw [if_neg (by omega)]; try with_reducible rfl))
            try simp only [Act.put, List.setIfInBounds_toArray, List.set_cons_zero, List.set_cons_succ]
            refine rg_take (v := ?_) 8 rfl (by kernel_rfl) (by kernel_rfl) (by kernel_rfl) (fun _ _ _ h => h) (by rfl) ?_ ?_; rotate_left
            · (intro x hx; go_simp; first | done | with_reducible rfl | (rw [if_pos (by omega)]; try with_reducible rfl) | (rw [if_neg (by omega)]; try with_reducible rfl))
            try simp only [Act.put, List.setIfInBounds_toArray, List.set_cons_zero, List.set_cons_succ]
            refine rg_take (v := ?_) 9 rfl (by kernel_rfl) (by kernel_rfl) (by kernel_rfl) (fun _ _ _ h => h) (by rfl) ?_ ?_; rotate_left
            · (intro x hx; go_simp; first | done | with_reducible rfl | (rw [if_pos (by omega)]; try with_reducible rfl) | (rw [if_neg (by omega)]; try with_reducible rfl))
            try simp only [Act.put, List.setIfInBounds_toArray, List.set_cons_zero, List.set_cons_succ]
            refine rg_take (v := ?_) 10 rfl (by kernel_rfl) (by kernel_rfl) (by kernel_rfl) (fun _ _ _ h => h) (by rfl) ?_ ?_; rotate_left
            · (intro x hx; go_simp; first | done | with_reducible rfl | (rw [if_pos (by omega)]; try with_reducible rfl) | (rw [if_neg (by omega)]; try with_reducible rfl))
            try simp only [Act.put, List.setIfInBounds_toArray, List.set_cons_zero, List.set_cons_succ]
            refine rg_done (by kernel_rfl) ?_
            have h2 : CB w2 g c1 := CB.below (w := w1.drew) h1 hb2
            have gg := grown_trans (grown_drew g1) (grown_of_below (some g) hb2)
            clear e0 e1 e2 e3 gcs hb2 h1 d25
            go_wp2_with fail
            refine (cbegin_any w2 g _ h2 5 now 60).mono ?_
            rintro e w4 ⟨v, rfl, hc4, g4, hm4⟩
            go_wp2_with fail
            go_ret
            rw [← HR5.out]
            exact CTPost.yes (CMPost.behind gg ⟨v, rfl, hc4, g4, hm4⟩)
          · have t3 : decide (c1.had + q ≤ now) = false := decide_eq_false hlt
            have hr := HR4.out
            rw [HQ.out, if_neg (fun hh => hlt hh.2)] at hr
            have HR5 := Lib.hid hr
            clear hr HR4
            refine rg_begin (fun _ => False) (by kernel_rfl) ?_
            refine rg_take (v := ?_) 0 rfl (by kernel_rfl) (by kernel_rfl) (by kernel_rfl) (fun _ _ _ h => h) (by rfl) ?_ ?_; rotate_left
            · (intro x hx; go_simp; first | done | with_reducible rfl | (rw [if_pos (by omega)]; try with_reducible rfl) | (rw [if_neg (by omega)]; try with_reducible rfl))
            try simp only [Act.put, List.setIfInBounds_toArray, List.set_cons_zero, List.set_cons_succ]
            refine rg_take (v := ?_) 1 rfl (by kernel_rfl) (by kernel_rfl) (by kernel_rfl) (fun _ _ _ h => h) (by rfl) ?_ ?_; rotate_left
            · (intro x hx; go_simp; first | done | with_reducible rfl | (rw [if_pos (by omega)]; try with_reducible rfl) | (rw [if_neg (by omega)]; try with_reducible rfl))
            try simp only [Act.put, List.setIfInBounds_toArray, List.set_cons_zero, List.set_cons_succ]
            refine rg_take (v := ?_) 2 rfl (by kernel_rfl) (by kernel_rfl) (by kernel_rfl) (fun _ _ _ h => h) (by rfl) ?_ ?_; rotate_left
            · (intro x hx; go_simp; first | done | with_reducible rfl | (rw [if_pos (by omega)]; try with_reducible rfl) | (rw [if_neg (by omega)]; try with_reducible rfl))
            try simp only [Act.put, List.setIfInBounds_toArray, List.set_cons_zero, List.set_cons_succ]
            refine rg_take (v := ?_) 3 rfl (by kernel_rfl) (by kernel_rfl) (by kernel_rfl) (fun _ _ _ h => h) (by rfl) ?_ ?_; rotate_left
            · (intro x hx; go_simp; first | done | with_reducible rfl | (rw [if_pos (by omega)]; try with_reducible rfl) | (rw [if_neg (by omega)]; try with_reducible rfl))
            try simp only [Act.put, List.setIfInBounds_toArray, List.set_cons_zero, List.set_cons_succ]
            refine rg_take (v := ?_) 4 rfl (by kernel_rfl) (by kernel_rfl) (by kernel_rfl) (fun _ _ _ h => h) (by rfl) ?_ ?_; rotate_left
            · (intro x hx; go_simp; first | done | with_reducible rfl | (rw [if_pos (by omega)]; try with_reducible rfl) | (rw [if_neg (by omega)]; try with_reducible rfl))
            try simp only [Act.put, List.setIfInBounds_toArray, List.set_cons_zero, List.set_cons_succ]
            refine rg_take (v := ?_) 5 rfl (by kernel_rfl) (by kernel_rfl) (by kernel_rfl) (fun _ _ _ h => h) (by rfl) ?_ ?_; rotate_left
            · (intro x hx; go_simp; first | done | with_reducible rfl | (rw [if_pos (by omega)]; try with_reducible rfl) | (rw [if_neg (by omega)]; try with_reducible rfl))
            try simp only [Act.put, List.setIfInBounds_toArray, List.set_cons_zero, List.set_cons_succ]
            refine rg_step 6 rfl (by kernel_rfl) (by rfl) (fun K hK => ?_)
            go_simp
            refine (csecs_any w1.drew g c1 h1 k1).mono ?_
            rintro e w2 ⟨rfl, hb2⟩
            refine hK.out _ _ (Ext.below_all _ hb2) ?_
            clear hK K; try simp only [Act.put, List.setIfInBounds_toArray, List.set_cons_zero, List.set_cons_succ]
            refine rg_take (v := ?_) 7 rfl (by kernel_rfl) (by kernel_rfl) (by kernel_rfl) (fun _ _ _ h => h) (by rfl) ?_ ?_; rotate_left
            · (intro x hx; go_simp; first | done | with_reducible rfl | (rw [if_pos (by omega)]; try with_reducible rfl) | (rw [if_neg (by omega)]; try with_reducible rfl))
            try simp only [Act.put, List.setIfInBounds_toArray, List.set_cons_zero, List.set_cons_succ]
            refine rg_take (v := ?_) 8 rfl (by kernel_rfl) (by kernel_rfl) (by kernel_rfl) (fun _ _ _ h => h) (by rfl) ?_ ?_; rotate_left
            · (intro x hx; go_simp; first | done | with_reducible rfl | (rw [if_pos (by omega)]; try with_reducible rfl) | (rw [if_neg (by omega)]; try with_reducible rfl))
            try simp only [Act.put, List.setIfInBounds_toArray, List.set_cons_zero, List.set_cons_succ]
            refine rg_take (v := ?_) 9 rfl (by kernel_rfl) (by kernel_rfl) (by kernel_rfl) (fun _ _ _ h => h) (by rfl) ?_ ?_; rotate_left
            · (intro x hx; go_simp; first | done | with_reducible rfl | (rw [if_pos (by omega)]; try with_reducible rfl) | (rw [if_neg (by omega)]; try with_reducible rfl))
            try simp only [Act.put, List.setIfInBounds_toArray, List.set_cons_zero, List.set_cons_succ]
            refine rg_take (v := ?_) 10 rfl (by kernel_rfl) (by kernel_rfl) (by kernel_rfl) (fun _ _ _ h => h) (by rfl) ?_ ?_; rotate_left
            · (intro x hx; go_simp; first | done | with_reducible rfl | (rw [if_pos (by omega)]; try with_reducible rfl) | (rw [if_neg (by omega)]; try with_reducible rfl))
            try simp only [Act.put, List.setIfInBounds_toArray, List.set_cons_zero, List.set_cons_succ]
            refine rg_done (by kernel_rfl) ?_
            have h2 : CB w2 g c1 := CB.below (w := w1.drew) h1 hb2
            have gg := grown_trans (grown_drew g1) (grown_of_below (some g) hb2)
            clear e0 e1 e2 e3 gcs hb2 h1 d25
            go_wp2_with fail
            refine (cagain_any w2 g c1 h2 now hn0 hn1 k1).mono ?_
            rintro e w4 ⟨v, rfl, hc4, g4, hm4⟩
            go_wp2_with fail
            go_ret
            rw [← HR5.out]
            exact CMPost.behind gg ⟨v, rfl, hc4, g4, hm4⟩
        · have u4 : (c1.state == 4) = false := by rw [beq_eq_false_iff_ne]; exact s4
          have hr := HR4.out
          rw [if_neg (fun hh => s4 hh.1)] at hr
          have HR5 := Lib.hid hr
          clear hr HR4 s4
          rcases hla with ⟨t1, t2⟩ | t1
          all_goals
            go_wp2_with fail
            refine (cagain_any w1 g c1 h1 now hn0 hn1 k1).mono ?_
            rintro e w4 ⟨v, rfl, hc4, g4, hm4⟩
            go_wp2_with fail
            go_ret
            rw [← HR5.out]
            exact CMPost.behind g1 ⟨v, rfl, hc4, g4, hm4⟩
end Go.Proofs.Ytjpmfmmgmlnanaa
