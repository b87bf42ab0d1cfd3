/-
  The walk of the statement LeaseNaks: the parts.
-/
import Derived.Test.YtjpmfmmgmlnanaaLs18
namespace Go.Proofs.Ytjpmfmmgmlnanaa
open Go.RowKit

theorem lose_ok {c : Cl} (k : c.ok) (h : c.had = 0) : c.lose.ok := by
  have := k.now0; have := k.now1; have := k.sent0; have := k.sent1; have := k.wait0; have := k.wait1; have := k.sends0; have := k.sends1; have := k.xid0; have := k.xid1
  constructor <;> simp only [Cl.lose] <;> omega
def bd0 : Array Value := bdC ad0 ad0 ad0 ad0 0
theorem naks0_tick : (cO 0 7).lose.tick 0 8 = (({ (cO 0 7).lose with xid := 8 } : Cl).start 1 0 4, true) := by
  simp [Cl.tick, Cl.time, Cl.late, Cl.go, Cl.lose, cO]

set_option maxRecDepth 100000 in
set_option maxHeartbeats 4000000 in
theorem naks0 (w : World) (secs : Int) (h1 : 100 ≤ secs) (h2 : secs ≤ 1000) : Calls Try.prog 8 #[.int .i64 0, .int .u32 secs] w (TruePost w) := by
  have d1 : decide (secs < 100) = false := decide_eq_false (by omega)
  have d2 : decide (1000 < secs) = false := decide_eq_false (by omega)
  go_enter Try.func8, Try.ntmps8
  go_wp2_with fail
  refine (awake16_any w).mono ?_
  rintro e w0 ⟨rfl, q0⟩
  go_wp2_with fail
  refine (lmac_any w0).mono ?_
  rintro e w1 ⟨rfl, q1⟩
  replace q1 := q0.trans (q1.mono q0.size)
  go_wp2_with fail
  refine (cnew_any w1 lmac).mono ?_
  rintro e w2 ⟨g, rfl, hg1, C2, q2⟩
  have G0 : w.heap.size ≤ g := Nat.le_trans q1.size hg1
  replace q2 := q1.trans (q2.mono q1.size)
  go_wp2_with fail
  refine (ctick_any w2 g _ C2 0 7 (new_ok lmac)).mono ?_
  rw [tick_new 0 7 (by decide) (by decide)]
  rintro e w3 ⟨v3, rfl, C3, g3, -⟩
  have b3 := below_row q2 g3 G0 (Nat.le_refl _)
  have hg3 : g < w3.heap.size := heap_lt C3
  go_wp2_with fail
  refine (word_at w3 2 2 rfl 7 a5 _ rfl secs (by omega) (by omega)).mono ?_
  rintro e w4 ⟨A4, n4, cc4, l4, rfl, O4, L4, q4⟩
  have C4 := C3.below q4
  have b4 := b3.trans (q4.mono b3.size)
  go_wp2_with fail
  refine (get_offer w4 g w3.heap.size (cS 0 7) C4 7 a5 secs A4 n4 cc4 l4 O4 L4 hg3 0 (cS 0 7) (time_same _ _ (by decide)) (cS_ok 0 7 (by decide) (by decide) (by decide) (by decide)) rfl rfl rfl a5_ne).mono ?_
  rw [cS_asks]
  rintro e w5 ⟨v5, rfl, C5, g5, -⟩
  have b5 := below_row b4 g5 G0 (Nat.le_refl _)
  have hg5 : g < w5.heap.size := heap_lt C5
  clear C2 C3 C4 O4 L4 q0 q1 q2 g3 b3 q4 b4 g5
  go_wp2_with fail
  refine (word_at w5 6 6 rfl 7 ad0 _ rfl 0 (by omega) (by omega)).mono ?_
  rintro e w6 ⟨A6, n6, cc6, l6, rfl, O6, L6, q6⟩
  have C6 := C5.below q6
  have b6 := b5.trans (q6.mono b5.size)
  go_wp2_with fail
  refine (get_nak w6 g w5.heap.size (cO 0 7) C6 7 ad0 0 A6 n6 cc6 l6 O6 L6 hg5 0 (cO 0 7) (time_same _ _ (by decide)) (cO_ok 0 7 (by decide) (by decide) (by decide) (by decide)) rfl rfl (.inl ⟨rfl, rfl⟩)).mono ?_
  rw [show decide (3 ≤ (cO 0 7).state) = false from rfl]
  rintro e w7 ⟨v7, rfl, C7, g7, -⟩
  have b7 := below_row b6 g7 G0 (Nat.le_refl _)
  clear C5 C6 O6 L6 b5 b6 q6 g7
  go_wp2_with fail
  refine (cbnd_any w7 g _ C7).mono ?_
  rw [show decide (3 ≤ (cO 0 7).lose.state) = false from rfl, show bdC (cO 0 7).lose.addr (cO 0 7).lose.mask (cO 0 7).lose.router (cO 0 7).lose.server (cO 0 7).lose.til = bd0 from rfl]
  rintro e w8 ⟨rfl, q8⟩
  have C8 := C7.below q8
  have b8 := b7.trans (q8.mono b7.size)
  clear C7
  go_upto_region 20 with ((with_reducible apply at_store_new 41); (case hx => exact rfl); (case hy => exact rfl); (case hg => first | rfl | simp); (case hi => kernel_rfl); (case hold => rfl); (case h1 => kernel_rfl))
  have C9 := C8.below ((Below.refl _ w8).alloc (Nat.le_refl _) (.cells bd0 41))
  have b9 := b8.alloc b8.size (.cells bd0 41)
  generalize w8.alloc (.cells bd0 41) = w9 at C9 b9 ⊢
  go_wp2_with fail
  refine (ctick_any w9 g _ C9 0 8 (lose_ok (cO_ok 0 7 (by decide) (by decide) (by decide) (by decide)) rfl)).mono ?_
  rw [naks0_tick]
  rintro e w10 ⟨v10, rfl, C10, g10, M10⟩
  obtain ⟨b3, A3, n3, c3, l3, rfl, hb3, P3, O3, L3⟩ := Msl.some M10
  have b10 := below_row b9 g10 G0 (Nat.le_refl _)
  go_wp2_with fail
  refine (cstate_any w10 g _ C10).mono ?_
  rintro e w12 ⟨rfl, rfl⟩
  go_wp2_with fail
  go_ret
  exact ⟨rfl, b10⟩

/-- At half its time it asks its server; at seven eighths everybody. -/
def cR (t0 secs draw xid : Int) : Cl := ⟨lmac, 4, t0 + secs / 2, draw, a5, ⟨255, 0, 0, 0⟩, ⟨10, 0, 0, 253⟩, s254, t0 + secs, t0, a5, s254, t0 + secs / 2, 60, xid⟩
def cQ (t0 secs draw : Int) : Cl := ⟨lmac, 5, t0 + secs * 7 / 8, draw, a5, ⟨255, 0, 0, 0⟩, ⟨10, 0, 0, 253⟩, s254, t0 + secs, t0, a5, s254, t0 + secs * 7 / 8, 60, 1⟩
section
variable (t0 secs d0 draw : Int) (h0 : 0 ≤ t0) (h1 : t0 ≤ 1073741824) (s0 : 60 ≤ secs) (s1 : secs ≤ 5000)
include h0 h1 s0 s1
theorem cH_half : (cH t0 d0 secs t0).tick (t0 + secs / 2) draw = (cR t0 secs draw 1, true) := by
  have e1 : t0 < t0 + secs / 2 := by omega
  have e2 : t0 + secs / 2 ≤ 1099511627776 := by omega
  have e3 : ¬ t0 + secs ≤ t0 + secs / 2 := by omega
  have e4 : (t0 + secs - t0) / 2 = secs / 2 := by omega
  simp only [Cl.tick, Cl.time, cH, e1, e2, and_self, if_true, Cl.late, e3, and_false, if_false, Cl.go, e4, Int.lt_irrefl, Cl.start, cR]
  simp
omit h0 h1 in
theorem cR_same (n : Int) : (cR t0 secs d0 n).tick (t0 + secs / 2) draw = (cR t0 secs d0 n, false) := by
  have e1 : ¬ t0 + secs ≤ t0 + secs / 2 := by omega
  have e2 : ¬ t0 + (t0 + secs - t0) * 7 / 8 ≤ t0 + secs / 2 := by omega
  have e3 : t0 + secs / 2 - (t0 + secs / 2) < 60 := by omega
  simp only [Cl.tick, Cl.time, cR, Int.lt_irrefl, false_and, if_false, Cl.late, e1, and_false, Cl.go, e2, Cl.again, e3, if_true]
  simp
theorem cR_late (n : Int) : (cR t0 secs d0 n).tick (t0 + secs * 7 / 8) draw = (cQ t0 secs d0, true) := by
  have e0 : t0 + secs / 2 < t0 + secs * 7 / 8 := by omega
  have e1 : t0 + secs * 7 / 8 ≤ 1099511627776 := by omega
  have e2 : ¬ t0 + secs ≤ t0 + secs * 7 / 8 := by omega
  have e3 : t0 + (t0 + secs - t0) * 7 / 8 ≤ t0 + secs * 7 / 8 := by omega
  simp only [Cl.tick, Cl.time, cR, e0, e1, and_self, if_true, Cl.late, e2, and_false, if_false, Cl.go, e3, and_true, Cl.start, cQ]
  simp
theorem cR_ok (d1 : 0 ≤ draw) (d2 : draw < 4294967296) : (cR t0 secs draw 1).ok := by constructor <;> simp only [cR] <;> omega
theorem cQ_ok (d1 : 0 ≤ draw) (d2 : draw < 4294967296) : (cQ t0 secs draw).ok := by constructor <;> simp only [cQ] <;> omega
end

theorem naks1_tick (secs : Int) : (cR 0 secs 7 1).lose.tick (secs / 2) 8 = (({ (cR 0 secs 7 1).lose with xid := 8 } : Cl).start 1 (secs / 2) 4, true) := by
  simp [Cl.tick, Cl.time, Cl.late, Cl.go, Cl.lose, cR]
set_option maxRecDepth 100000 in
set_option maxHeartbeats 4000000 in
theorem naks1 (w : World) (secs : Int) (h1 : 100 ≤ secs) (h2 : secs ≤ 1000) : Calls Try.prog 8 #[.int .i64 1, .int .u32 secs] w (TruePost w) := by
  have d1 : decide (secs < 100) = false := decide_eq_false (by omega)
  have d2 : decide (1000 < secs) = false := decide_eq_false (by omega)
  go_enter Try.func8, Try.ntmps8
  go_wp2_with fail
  refine (awake16_any w).mono ?_
  rintro e w0 ⟨rfl, q0⟩
  go_wp2_with fail
  refine (lmac_any w0).mono ?_
  rintro e w1 ⟨rfl, q1⟩
  replace q1 := q0.trans (q1.mono q0.size)
  go_wp2_with fail
  refine (cnew_any w1 lmac).mono ?_
  rintro e w2 ⟨g, rfl, hg1, C2, q2⟩
  have G0 : w.heap.size ≤ g := Nat.le_trans q1.size hg1
  replace q2 := q1.trans (q2.mono q1.size)
  go_wp2_with fail
  refine (ctick_any w2 g _ C2 0 7 (new_ok lmac)).mono ?_
  rw [tick_new 0 7 (by decide) (by decide)]
  rintro e w3 ⟨v3, rfl, C3, g3, -⟩
  have b3 := below_row q2 g3 G0 (Nat.le_refl _)
  have hg3 : g < w3.heap.size := heap_lt C3
  go_wp2_with fail
  refine (word_at w3 2 2 rfl 7 a5 _ rfl secs (by omega) (by omega)).mono ?_
  rintro e w4 ⟨A4, n4, cc4, l4, rfl, O4, L4, q4⟩
  have C4 := C3.below q4
  have b4 := b3.trans (q4.mono b3.size)
  go_wp2_with fail
  refine (get_offer w4 g w3.heap.size (cS 0 7) C4 7 a5 secs A4 n4 cc4 l4 O4 L4 hg3 0 (cS 0 7) (time_same _ _ (by decide)) (cS_ok 0 7 (by decide) (by decide) (by decide) (by decide)) rfl rfl rfl a5_ne).mono ?_
  rw [cS_asks]
  rintro e w5 ⟨v5, rfl, C5, g5, -⟩
  have b5 := below_row b4 g5 G0 (Nat.le_refl _)
  have hg5 : g < w5.heap.size := heap_lt C5
  have M5' := True.intro
  clear C2 C3 C4 O4 L4 q0 q1 q2 g3 b3 q4 b4 g5 M5'
  go_wp2_with fail
  refine (word_at w5 5 5 rfl 7 a5 _ rfl secs (by omega) (by omega)).mono ?_
  rintro e wa ⟨Aa, na, cca, la, rfl, Oa, La, qa⟩
  have Ca := C5.below qa
  have ba := b5.trans (qa.mono b5.size)
  go_wp2_with fail
  refine (get_ack wa g w5.heap.size (cO 0 7) Ca 7 a5 secs (by omega) (by omega) Aa na cca la Oa La hg5 0 (cO 0 7) (time_same _ _ (by decide)) (cO_ok 0 7 (by decide) (by decide) (by decide) (by decide)) rfl rfl (.inl ⟨rfl, rfl⟩) a5_ne).mono ?_
  rw [show (cO 0 7).acked a5 secs = cH 0 7 secs 0 by rw [← cO_acked 0 7 secs 0 (by omega) (by decide) (by decide), time_same _ _ (by decide)]]
  rintro e wb ⟨vb, rfl, Cb, gb, -⟩
  have bb := below_row ba gb G0 (Nat.le_refl _)
  clear C5 Ca Oa La b5 qa ba gb
  have r1 := cH_half 0 secs 7 7 (by decide) (by decide) (by omega) (by omega)
  rw [Int.zero_add] at r1
  have R1 := Lib.hid r1
  have r2 := cR_same 0 secs 7 7 (by omega) (by omega) 1
  rw [Int.zero_add] at r2
  have R2 := Lib.hid r2
  clear r1 r2
  go_wp2_with fail
  refine (ctick_any wb g _ Cb (secs / 2) 7 (cH_ok 0 7 secs 0 (by decide) (by decide) (by decide) (by decide) (by decide) (by decide) (by omega) (by omega))).mono ?_
  rw [R1.out]
  rintro e wc ⟨vc, rfl, Cc, gc, -⟩
  have bc := below_row bb gc G0 (Nat.le_refl _)
  clear Cb bb gc
  go_wp2_with fail
  refine (ctick_any wc g _ Cc (secs / 2) 7 (cR_ok 0 secs 7 (by decide) (by decide) (by omega) (by omega) (by decide) (by decide))).mono ?_
  rw [R2.out]
  rintro e wd ⟨vd, rfl, Cd, gd, -⟩
  have bd := below_row bc gd G0 (Nat.le_refl _)
  have hgd : g < wd.heap.size := heap_lt Cd
  clear Cc bc gd
  go_wp2_with fail
  refine (word_at wd 6 6 rfl 7 ad0 _ rfl 0 (by omega) (by omega)).mono ?_
  rintro e w6 ⟨A6, n6, cc6, l6, rfl, O6, L6, q6⟩
  have C6 := Cd.below q6
  have b6 := bd.trans (q6.mono bd.size)
  go_wp2_with fail
  refine (get_nak w6 g wd.heap.size (cR 0 secs 7 1) C6 7 ad0 0 A6 n6 cc6 l6 O6 L6 hgd (secs / 2) (cR 0 secs 7 1) (time_same _ _ (by simp [cR])) (cR_ok 0 secs 7 (by decide) (by decide) (by omega) (by omega) (by decide) (by decide)) rfl rfl (.inr (.inl rfl))).mono ?_
  rw [show decide (3 ≤ (cR 0 secs 7 1).state) = true from rfl]
  rintro e w7 ⟨v7, rfl, C7, g7, -⟩
  have b7 := below_row b6 g7 G0 (Nat.le_refl _)
  clear Cd C6 O6 L6 bd b6 q6 g7
  go_wp2_with fail
  refine (cbnd_any w7 g _ C7).mono ?_
  rw [show decide (3 ≤ (cR 0 secs 7 1).lose.state) = false from rfl, show bdC (cR 0 secs 7 1).lose.addr (cR 0 secs 7 1).lose.mask (cR 0 secs 7 1).lose.router (cR 0 secs 7 1).lose.server (cR 0 secs 7 1).lose.til = bd0 from rfl]
  rintro e w8 ⟨rfl, q8⟩
  have C8 := C7.below q8
  have b8 := b7.trans (q8.mono b7.size)
  clear C7
  go_upto_region 20 with ((with_reducible apply at_store_new 41); (case hx => exact rfl); (case hy => exact rfl); (case hg => first | rfl | simp); (case hi => kernel_rfl); (case hold => rfl); (case h1 => kernel_rfl))
  have C9 := C8.below ((Below.refl _ w8).alloc (Nat.le_refl _) (.cells bd0 41))
  have b9 := b8.alloc b8.size (.cells bd0 41)
  generalize w8.alloc (.cells bd0 41) = w9 at C9 b9 ⊢
  go_wp2_with fail
  refine (ctick_any w9 g _ C9 (secs / 2) 8 (lose_ok (cR_ok 0 secs 7 (by decide) (by decide) (by omega) (by omega) (by decide) (by decide)) rfl)).mono ?_
  rw [naks1_tick]
  rintro e w10 ⟨v10, rfl, C10, g10, M10⟩
  obtain ⟨b3, A3, n3, c3, l3, rfl, hb3, P3, O3, L3⟩ := Msl.some M10
  have b10 := below_row b9 g10 G0 (Nat.le_refl _)
  go_wp2_with fail
  refine (cstate_any w10 g _ C10).mono ?_
  rintro e w12 ⟨rfl, rfl⟩
  go_wp2_with fail
  go_ret
  exact ⟨rfl, b10⟩

theorem naks2_tick (secs : Int) : (cQ 0 secs 7).lose.tick (secs * 7 / 8) 8 = (({ (cQ 0 secs 7).lose with xid := 8 } : Cl).start 1 (secs * 7 / 8) 4, true) := by
  simp [Cl.tick, Cl.time, Cl.late, Cl.go, Cl.lose, cQ]
set_option maxRecDepth 100000 in
set_option maxHeartbeats 4000000 in
theorem naks2 (w : World) (secs : Int) (h1 : 100 ≤ secs) (h2 : secs ≤ 1000) : Calls Try.prog 8 #[.int .i64 2, .int .u32 secs] w (TruePost w) := by
  have d1 : decide (secs < 100) = false := decide_eq_false (by omega)
  have d2 : decide (1000 < secs) = false := decide_eq_false (by omega)
  go_enter Try.func8, Try.ntmps8
  go_wp2_with fail
  refine (awake16_any w).mono ?_
  rintro e w0 ⟨rfl, q0⟩
  go_wp2_with fail
  refine (lmac_any w0).mono ?_
  rintro e w1 ⟨rfl, q1⟩
  replace q1 := q0.trans (q1.mono q0.size)
  go_wp2_with fail
  refine (cnew_any w1 lmac).mono ?_
  rintro e w2 ⟨g, rfl, hg1, C2, q2⟩
  have G0 : w.heap.size ≤ g := Nat.le_trans q1.size hg1
  replace q2 := q1.trans (q2.mono q1.size)
  go_wp2_with fail
  refine (ctick_any w2 g _ C2 0 7 (new_ok lmac)).mono ?_
  rw [tick_new 0 7 (by decide) (by decide)]
  rintro e w3 ⟨v3, rfl, C3, g3, -⟩
  have b3 := below_row q2 g3 G0 (Nat.le_refl _)
  have hg3 : g < w3.heap.size := heap_lt C3
  go_wp2_with fail
  refine (word_at w3 2 2 rfl 7 a5 _ rfl secs (by omega) (by omega)).mono ?_
  rintro e w4 ⟨A4, n4, cc4, l4, rfl, O4, L4, q4⟩
  have C4 := C3.below q4
  have b4 := b3.trans (q4.mono b3.size)
  go_wp2_with fail
  refine (get_offer w4 g w3.heap.size (cS 0 7) C4 7 a5 secs A4 n4 cc4 l4 O4 L4 hg3 0 (cS 0 7) (time_same _ _ (by decide)) (cS_ok 0 7 (by decide) (by decide) (by decide) (by decide)) rfl rfl rfl a5_ne).mono ?_
  rw [cS_asks]
  rintro e w5 ⟨v5, rfl, C5, g5, -⟩
  have b5 := below_row b4 g5 G0 (Nat.le_refl _)
  have hg5 : g < w5.heap.size := heap_lt C5
  have M5' := True.intro
  clear C2 C3 C4 O4 L4 q0 q1 q2 g3 b3 q4 b4 g5 M5'
  go_wp2_with fail
  refine (word_at w5 5 5 rfl 7 a5 _ rfl secs (by omega) (by omega)).mono ?_
  rintro e wa ⟨Aa, na, cca, la, rfl, Oa, La, qa⟩
  have Ca := C5.below qa
  have ba := b5.trans (qa.mono b5.size)
  go_wp2_with fail
  refine (get_ack wa g w5.heap.size (cO 0 7) Ca 7 a5 secs (by omega) (by omega) Aa na cca la Oa La hg5 0 (cO 0 7) (time_same _ _ (by decide)) (cO_ok 0 7 (by decide) (by decide) (by decide) (by decide)) rfl rfl (.inl ⟨rfl, rfl⟩) a5_ne).mono ?_
  rw [show (cO 0 7).acked a5 secs = cH 0 7 secs 0 by rw [← cO_acked 0 7 secs 0 (by omega) (by decide) (by decide), time_same _ _ (by decide)]]
  rintro e wb ⟨vb, rfl, Cb, gb, -⟩
  have bb := below_row ba gb G0 (Nat.le_refl _)
  clear C5 Ca Oa La b5 qa ba gb
  have r1 := cH_half 0 secs 7 7 (by decide) (by decide) (by omega) (by omega)
  rw [Int.zero_add] at r1
  have R1 := Lib.hid r1
  have r2 := cR_late 0 secs 7 7 (by decide) (by decide) (by omega) (by omega) 1
  rw [Int.zero_add] at r2
  have R2 := Lib.hid r2
  clear r1 r2
  go_wp2_with fail
  refine (ctick_any wb g _ Cb (secs / 2) 7 (cH_ok 0 7 secs 0 (by decide) (by decide) (by decide) (by decide) (by decide) (by decide) (by omega) (by omega))).mono ?_
  rw [R1.out]
  rintro e wc ⟨vc, rfl, Cc, gc, -⟩
  have bc := below_row bb gc G0 (Nat.le_refl _)
  clear Cb bb gc
  go_wp2_with fail
  refine (ctick_any wc g _ Cc (secs * 7 / 8) 7 (cR_ok 0 secs 7 (by decide) (by decide) (by omega) (by omega) (by decide) (by decide))).mono ?_
  rw [R2.out]
  rintro e wd ⟨vd, rfl, Cd, gd, -⟩
  have bd := below_row bc gd G0 (Nat.le_refl _)
  have hgd : g < wd.heap.size := heap_lt Cd
  clear Cc bc gd
  go_wp2_with fail
  refine (word_at wd 6 6 rfl 7 ad0 _ rfl 0 (by omega) (by omega)).mono ?_
  rintro e w6 ⟨A6, n6, cc6, l6, rfl, O6, L6, q6⟩
  have C6 := Cd.below q6
  have b6 := bd.trans (q6.mono bd.size)
  go_wp2_with fail
  refine (get_nak w6 g wd.heap.size (cQ 0 secs 7) C6 7 ad0 0 A6 n6 cc6 l6 O6 L6 hgd (secs * 7 / 8) (cQ 0 secs 7) (time_same _ _ (by simp [cQ])) (cQ_ok 0 secs 7 (by decide) (by decide) (by omega) (by omega) (by decide) (by decide)) rfl rfl (.inr (.inr rfl))).mono ?_
  rw [show decide (3 ≤ (cQ 0 secs 7).state) = true from rfl]
  rintro e w7 ⟨v7, rfl, C7, g7, -⟩
  have b7 := below_row b6 g7 G0 (Nat.le_refl _)
  clear Cd C6 O6 L6 bd b6 q6 g7
  go_wp2_with fail
  refine (cbnd_any w7 g _ C7).mono ?_
  rw [show decide (3 ≤ (cQ 0 secs 7).lose.state) = false from rfl, show bdC (cQ 0 secs 7).lose.addr (cQ 0 secs 7).lose.mask (cQ 0 secs 7).lose.router (cQ 0 secs 7).lose.server (cQ 0 secs 7).lose.til = bd0 from rfl]
  rintro e w8 ⟨rfl, q8⟩
  have C8 := C7.below q8
  have b8 := b7.trans (q8.mono b7.size)
  clear C7
  go_upto_region 20 with ((with_reducible apply at_store_new 41); (case hx => exact rfl); (case hy => exact rfl); (case hg => first | rfl | simp); (case hi => kernel_rfl); (case hold => rfl); (case h1 => kernel_rfl))
  have C9 := C8.below ((Below.refl _ w8).alloc (Nat.le_refl _) (.cells bd0 41))
  have b9 := b8.alloc b8.size (.cells bd0 41)
  generalize w8.alloc (.cells bd0 41) = w9 at C9 b9 ⊢
  go_wp2_with fail
  refine (ctick_any w9 g _ C9 (secs * 7 / 8) 8 (lose_ok (cQ_ok 0 secs 7 (by decide) (by decide) (by omega) (by omega) (by decide) (by decide)) rfl)).mono ?_
  rw [naks2_tick]
  rintro e w10 ⟨v10, rfl, C10, g10, M10⟩
  obtain ⟨b3, A3, n3, c3, l3, rfl, hb3, P3, O3, L3⟩ := Msl.some M10
  have b10 := below_row b9 g10 G0 (Nat.le_refl _)
  go_wp2_with fail
  refine (cstate_any w10 g _ C10).mono ?_
  rintro e w12 ⟨rfl, rfl⟩
  go_wp2_with fail
  go_ret
  exact ⟨rfl, b10⟩

set_option maxRecDepth 100000 in
set_option maxHeartbeats 4000000 in
theorem leaseNaks_out (w : World) (v secs : Int) (h : v < 0 ∨ 2 < v ∨ secs < 100 ∨ 1000 < secs) : Calls Try.prog 8 #[.int .i64 v, .int .u32 secs] w (TruePost w) := by
  rcases Int.lt_or_le v 0 with k1 | k1
  case' inl =>
    have d1 : decide (v < 0) = true := decide_eq_true k1
  case' inr =>
    have d1 : decide (v < 0) = false := decide_eq_false (by omega)
    rcases Int.lt_or_le 2 v with k2 | k2
    case' inl =>
      have d2 : decide (2 < v) = true := decide_eq_true k2
    case' inr =>
      have d2 : decide (2 < v) = false := decide_eq_false (by omega)
      rcases Int.lt_or_le secs 100 with k3 | k3
      case' inl =>
        have d3 : decide (secs < 100) = true := decide_eq_true k3
      case' inr =>
        have d3 : decide (secs < 100) = false := decide_eq_false (by omega)
        have d4 : decide (1000 < secs) = true := decide_eq_true (by omega)
  all_goals
    go_enter Try.func8, Try.ntmps8
    go_wp2_with fail
    refine (awake16_any w).mono ?_
    rintro e w0 ⟨rfl, q0⟩
    go_wp2_with fail
    go_ret
    exact ⟨rfl, q0⟩
theorem leaseNaks_all (w : World) (v secs : Int) : Calls Try.prog 8 #[.int .i64 v, .int .u32 secs] w (TruePost w) := by
  by_cases h : v < 0 ∨ 2 < v ∨ secs < 100 ∨ 1000 < secs
  · exact leaseNaks_out w v secs h
  · rcases (show v = 0 ∨ v = 1 ∨ v = 2 by omega) with rfl | rfl | rfl
    · exact naks0 w secs (by omega) (by omega)
    · exact naks1 w secs (by omega) (by omega)
    · exact naks2 w secs (by omega) (by omega)
end Go.Proofs.Ytjpmfmmgmlnanaa
