/-
  The walk of the statement LeaseKnown.
-/
import Derived.Test.YtjpmfmmgmlnanaaLeaseNaks
namespace Go.Proofs.Ytjpmfmmgmlnanaa
open Go.RowKit

abbrev m255 : Ad4 := ⟨255, 0, 0, 0⟩
abbrev r253 : Ad4 := ⟨10, 0, 0, 253⟩
def k1 : Cl := ⟨lmac, 3, 0, 7, a5, m255, r253, s254, 600, 0, a5, s254, 0, 4, 1⟩
def k2 : Cl := ⟨lmac, 3, 299, 7, a5, m255, r253, s254, 600, 0, a5, s254, 0, 4, 1⟩
def k3 : Cl := ⟨lmac, 4, 300, 9, a5, m255, r253, s254, 600, 0, a5, s254, 300, 60, 1⟩
def k4 : Cl := ⟨lmac, 5, 525, 9, a5, m255, r253, s254, 600, 0, a5, s254, 525, 60, 1⟩
def k5 : Cl := ⟨lmac, 5, 526, 9, a5, m255, r253, s254, 600, 0, a5, s254, 525, 60, 1⟩
def k6 : Cl := ⟨lmac, 3, 526, 9, a5, m255, r253, s254, 1126, 526, a5, s254, 525, 60, 1⟩
def k7 : Cl := ⟨lmac, 4, 900, 11, a5, m255, r253, s254, 1126, 526, a5, s254, 900, 60, 1⟩
def k8 : Cl := ⟨lmac, 4, 901, 11, a5, m255, r253, s254, 1126, 526, a5, s254, 900, 60, 1⟩
def k9 : Cl := ⟨lmac, 0, 901, 11, ad0, ad0, ad0, ad0, 0, 526, a5, s254, 900, 60, 1⟩
def a10 : Ad4 := ⟨10, 0, 0, 0⟩
def hK3 : Hd := ⟨1, 0, 9, 0, 0, a5, ad0, ad0, ad0, lmac⟩
theorem k3_msg : k3.msg = (hK3, [(53, [3])]) := by simp [Cl.msg, k3, hK3]
theorem kok {c : Cl} (h : 0 ≤ c.now ∧ c.now ≤ 1000 ∧ 0 ≤ c.sent ∧ c.sent ≤ 1000 ∧ 0 ≤ c.had ∧ c.had ≤ c.til ∧ c.til ≤ 2000 ∧ 0 ≤ c.wait ∧ c.wait ≤ 64 ∧ 0 ≤ c.sends ∧ c.sends ≤ 64 ∧ 0 ≤ c.xid ∧ c.xid ≤ 64) : c.ok := by
  constructor <;> omega
theorem k1_ok : k1.ok := kok (by simp [k1])
theorem k2_ok : k2.ok := kok (by simp [k2])
theorem k3_ok : k3.ok := kok (by simp [k3])
theorem k5_ok : k5.ok := kok (by simp [k5])
theorem k6_ok : k6.ok := kok (by simp [k6])
theorem k8_ok : k8.ok := kok (by simp [k8])
theorem k1_tick : k1.tick 299 8 = (k2, false) := by simp [Cl.tick, Cl.time, k1, Cl.late, Cl.go, k2]
theorem k2_tick : k2.tick 300 9 = (k3, true) := by simp [Cl.tick, Cl.time, k2, Cl.late, Cl.go, Cl.start, k3]
theorem k3_tick : k3.tick 525 10 = (k4, true) := by simp [Cl.tick, Cl.time, k3, Cl.late, Cl.go, Cl.start, k4]
theorem k6_tick : k6.tick 900 11 = (k7, true) := by simp [Cl.tick, Cl.time, k6, Cl.late, Cl.go, Cl.start, k7]
theorem k0_acked : (cO 0 7).acked a5 600 = k1 := by (simp [cO, Cl.acked, k1, s254]; decide)
theorem k5_acked : k5.acked a5 600 = k6 := by (simp [k5, Cl.acked, k6, s254]; decide)

set_option maxRecDepth 100000 in
set_option maxHeartbeats 4000000 in
theorem leaseKnown_all (w : World) : Calls Try.prog 3 #[] w (TruePost w) := by
  go_enter Try.func3, Try.ntmps3
  go_wp2_with fail
  refine (awake16_any w).mono ?_
  rintro e w0 ⟨rfl, q0⟩
  go_wp2_with fail
  refine (lmac_any w0).mono ?_
  rintro e w1 ⟨rfl, q1⟩
  replace q1 := q0.trans (q1.mono q0.size)
  go_wp2_with fail
  refine (cnew_any w1 lmac).mono ?_
  rintro e w2 ⟨g, rfl, hg1, C2, q2⟩
  have G0 : w.heap.size ≤ g := Nat.le_trans q1.size hg1
  replace q2 := q1.trans (q2.mono q1.size)
  go_wp2_with fail
  refine (ctick_any w2 g _ C2 0 7 (new_ok lmac)).mono ?_
  rw [tick_new 0 7 (by decide) (by decide)]
  rintro e w3 ⟨v3, rfl, C3, g3, -⟩
  have b3 := below_row q2 g3 G0 (Nat.le_refl _)
  have hg3 : g < w3.heap.size := heap_lt C3
  go_wp2_with fail
  refine (word_at w3 2 2 rfl 7 a5 _ rfl 600 (by decide) (by decide)).mono ?_
  rintro e w4 ⟨A4, n4, cc4, l4, rfl, O4, L4, q4⟩
  have C4 := C3.below q4
  have b4 := b3.trans (q4.mono b3.size)
  go_wp2_with fail
  refine (get_offer w4 g w3.heap.size (cS 0 7) C4 7 a5 600 A4 n4 cc4 l4 O4 L4 hg3 0 (cS 0 7) (time_same _ _ (by decide)) (cS_ok 0 7 (by decide) (by decide) (by decide) (by decide)) rfl rfl rfl a5_ne).mono ?_
  rw [cS_asks]
  rintro e w5 ⟨v5, rfl, C5, g5, -⟩
  have b5 := below_row b4 g5 G0 (Nat.le_refl _)
  have hg5 : g < w5.heap.size := heap_lt C5
  clear C2 C3 C4 O4 L4 q0 q1 q2 g3 b3 q4 b4 g5 hg1
  go_wp2_with fail
  refine (word_at w5 5 5 rfl 7 a5 _ rfl 600 (by decide) (by decide)).mono ?_
  rintro e wa ⟨Aa, na, cca, la, rfl, Oa, La, qa⟩
  have Ca := C5.below qa
  have ba := b5.trans (qa.mono b5.size)
  go_wp2_with fail
  refine (get_ack wa g w5.heap.size (cO 0 7) Ca 7 a5 600 (by decide) (by decide) Aa na cca la Oa La hg5 0 (cO 0 7) (time_same _ _ (by decide)) (cO_ok 0 7 (by decide) (by decide) (by decide) (by decide)) rfl rfl (.inl ⟨rfl, rfl⟩) a5_ne).mono ?_
  rw [k0_acked]
  rintro e wb ⟨vb, rfl, Cb, gb, -⟩
  have bb := below_row ba gb G0 (Nat.le_refl _)
  clear C5 Ca Oa La b5 qa ba gb
  go_wp2_with fail
  refine (ctick_any wb g _ Cb 299 8 k1_ok).mono ?_
  rw [k1_tick]
  rintro e wc ⟨vc, rfl, Cc, gc, Mc⟩
  have hv : vc = .slice none 0 0 := Mc
  subst hv
  have bc := below_row bb gc G0 (Nat.le_refl _)
  clear Cb bb gc Mc
  go_wp2_with fail
  refine (ctick_any wc g _ Cc 300 9 k2_ok).mono ?_
  rw [k2_tick]
  rintro e wd ⟨vd, rfl, Cd, gd, Md⟩
  replace Md : Msl wd wc.heap.size vd (some k3.msg) := Md
  rw [k3_msg] at Md
  have bd := below_row bc gd G0 (Nat.le_refl _)
  obtain ⟨bm, Am, nm, cm, lm, rfl, hbm, PM, -, -⟩ := Md.some
  have hmg : bm ≠ g := Cd.ne PM (by decide)
  clear Cc bc gd Md hbm
  go_wp2_with fail
  refine (cstate_any wd g _ Cd).mono ?_
  rw [show k3.state = 4 from rfl]
  rintro e w12 ⟨rfl, rfl⟩
  go_wp2_with fail
  refine (ctick_any wd g _ Cd 525 10 k3_ok).mono ?_
  rw [k3_tick]
  rintro e we ⟨ve, rfl, Ce, ge, Me⟩
  obtain ⟨bn, An, nn, cn, ln, rfl, -, -, -, -⟩ := Msl.some Me
  have be := below_row bd ge G0 (Nat.le_refl _)
  have P1 := grown_at ge PM hmg
  clear Cd bd ge Me PM
  go_wp2_with fail
  refine (cstate_any we g _ Ce).mono ?_
  rw [show k4.state = 5 from rfl]
  rintro e w12 ⟨rfl, rfl⟩
  have hge : g < we.heap.size := heap_lt Ce
  go_wp2_with fail
  refine (word_at we 5 5 rfl 9 a5 _ rfl 600 (by decide) (by decide)).mono ?_
  rintro e w6 ⟨A6, n6, cc6, l6, rfl, O6, L6, q6⟩
  have C6 := Ce.below q6
  have P6 := below_at q6 P1 (heap_lt P1)
  have b6 := be.trans (q6.mono be.size)
  clear Ce be P1 q6
  go_wp2_with fail
  refine (get_ack w6 g we.heap.size k4 C6 9 a5 600 (by decide) (by decide) A6 n6 cc6 l6 O6 L6 hge 526 k5 rfl k5_ok rfl rfl (.inr (.inr rfl)) a5_ne).mono ?_
  rw [k5_acked, show (!decide (3 ≤ k5.state) || !adeq k5.addr a5) = false from rfl]
  rintro e w7 ⟨v7, rfl, C7, g7, -⟩
  have P7 := grown_at g7 P6 hmg
  have b7 := below_row b6 g7 G0 (Nat.le_refl _)
  clear C6 P6 b6 O6 L6 g7
  go_wp2_with fail
  refine (cstate_any w7 g _ C7).mono ?_
  rw [show k6.state = 3 from rfl]
  rintro e w12 ⟨rfl, rfl⟩
  go_wp2_with fail
  refine (ctick_any w7 g _ C7 900 11 k6_ok).mono ?_
  rw [k6_tick]
  rintro e w8 ⟨v8, rfl, C8, g8, -⟩
  have P8 := grown_at g8 P7 hmg
  have b8 := below_row b7 g8 G0 (Nat.le_refl _)
  have hg8 : g < w8.heap.size := heap_lt C8
  clear C7 P7 b7 g8
  go_wp2_with fail
  refine (word_at w8 6 6 rfl 11 ad0 _ rfl 0 (by decide) (by decide)).mono ?_
  rintro e w9 ⟨A9, n9, cc9, l9, rfl, O9, L9, q9⟩
  have C9 := C8.below q9
  have P9 := below_at q9 P8 (heap_lt P8)
  have b9 := b8.trans (q9.mono b8.size)
  clear C8 b8 P8 q9
  go_wp2_with fail
  refine (get_nak w9 g w8.heap.size k7 C9 11 ad0 0 A9 n9 cc9 l9 O9 L9 hg8 901 k8 rfl k8_ok rfl rfl (.inr (.inl rfl))).mono ?_
  rw [show decide (3 ≤ k8.state) = true from rfl, show k8.lose = k9 from rfl]
  rintro e x1 ⟨v1, rfl, D1, h1, -⟩
  have Q1 := grown_at h1 P9 hmg
  have d1 := below_row b9 h1 G0 (Nat.le_refl _)
  clear C9 P9 b9 O9 L9 h1
  go_wp2_with fail
  refine (cbnd_any x1 g _ D1).mono ?_
  rw [show decide (3 ≤ k9.state) = false from rfl, show bdC k9.addr k9.mask k9.router k9.server k9.til = bd0 from rfl]
  rintro e x2 ⟨rfl, y2⟩
  have D2 := D1.below y2
  have Q2 := below_at y2 Q1 (heap_lt Q1)
  have d2 := d1.trans (y2.mono d1.size)
  clear D1 Q1 d1 y2
  go_upto_region 17 with ((with_reducible apply at_store_new 41); (case hx => exact rfl); (case hy => exact rfl); (case hg => first | rfl | simp); (case hi => kernel_rfl); (case hold => rfl); (case h1 => kernel_rfl))
  have y3 : Below x2.heap.size x2 (x2.alloc (.cells bd0 41)) := (Below.refl _ x2).alloc (Nat.le_refl _) _
  have D3 := D2.below y3
  have Q3 := below_at y3 Q2 (heap_lt Q2)
  have d3 := d2.trans (y3.mono d2.size)
  generalize x2.alloc (.cells bd0 41) = x3 at D3 Q3 d3 ⊢
  clear D2 Q2 d2 y3
  go_wp2_with fail
  refine (lmac_any x3).mono ?_
  rintro e x4 ⟨rfl, y4⟩
  have D4 := D3.below y4
  have Q4 := below_at y4 Q3 (heap_lt Q3)
  have d4 := d3.trans (y4.mono d3.size)
  clear D3 Q3 d3 y4
  go_wp2_with fail
  refine (cnew_any x4 lmac).mono ?_
  rintro e x5 ⟨k, rfl, hk, E5, y5⟩
  have D5 := D4.below y5
  have Q5 := below_at y5 Q4 (heap_lt Q4)
  have d5 := d4.trans (y5.mono d4.size)
  have K0 : w.heap.size ≤ k := Nat.le_trans d4.size hk
  have kk : g ≠ k ∧ bm ≠ k := by have := heap_lt D4; have := heap_lt Q4; omega
  clear D4 Q4 d4 y5 hk
  go_wp2_with fail
  refine (ctick_any x5 k _ E5 0 1 (new_ok lmac)).mono ?_
  rw [tick_new 0 1 (by decide) (by decide)]
  rintro e x6 ⟨v6, rfl, E6, y6, -⟩
  have D6 := grown_at y6 D5 kk.1
  have Q6 := grown_at y6 Q5 kk.2
  have d6 := below_row d5 y6 K0 (Nat.le_refl _)
  have hk6 : k < x6.heap.size := heap_lt E6
  clear D5 Q5 d5 E5 y6
  go_wp2_with fail
  refine (word_at x6 5 5 rfl 1 a10 _ rfl 600 (by decide) (by decide)).mono ?_
  rintro e x7 ⟨A7, n7, cc7, l7, rfl, O7, L7, y7⟩
  have D7 : CB x7 g k9 := below_at y7 D6 (heap_lt D6)
  have E7 := E6.below y7
  have Q7 := below_at y7 Q6 (heap_lt Q6)
  have d7 := d6.trans (y7.mono d6.size)
  clear D6 Q6 d6 E6 y7
  go_wp2_with fail
  refine (cget_no1 x7 k x6.heap.size (cS 0 1) E7 (wordH 1 a10) A7 n7 cc7 l7 O7 hk6 (bodies_of L7 (wo_bodies 5 600)) 0 (cS 0 1) (time_same _ _ (by decide)) (cS_ok 0 1 (by decide) (by decide) (by decide) (by decide)) ⟨rfl, rfl, rfl, by decide, by decide⟩ rfl (by rw [L7, wo_type 5 600 (by decide) (by decide)]; decide)).mono ?_
  rintro e x8 ⟨v8, rfl, E8, y8, -⟩
  have D8 : CB x8 g k9 := grown_at y8 D7 kk.1
  have Q8 := grown_at y8 Q7 kk.2
  have d8 := below_row d7 y8 K0 (Nat.le_refl _)
  clear D7 Q7 d7 E7 y8 O7 L7
  have c5 : x8.cell? ⟨bm, 5, none⟩ = some (.int .u8 10) := (cells_of Q8).1 5
  have c6 : x8.cell? ⟨bm, 6, none⟩ = some (.int .u8 0) := (cells_of Q8).1 6
  have c7 : x8.cell? ⟨bm, 7, none⟩ = some (.int .u8 0) := (cells_of Q8).1 7
  have c8 : x8.cell? ⟨bm, 8, none⟩ = some (.int .u8 5) := (cells_of Q8).1 8
  have em : ∀ w, (binOp .eql 34 (.agg #[.int .u8 10, .int .u8 0, .int .u8 0, .int .u8 5]) (.agg #[.int .u8 10, .int .u8 0, .int .u8 0, .int .u8 5])).run Try.prog w = .ok (.bool true) w := fun w => run_eql_ad w a5 a5
  clear Q8
  go_wp2_with fail
  refine (cstate_any x8 g _ D8).mono ?_
  rw [show k9.state = 0 from rfl]
  rintro e w12 ⟨rfl, rfl⟩
  go_wp2_with fail
  refine (cstate_any x8 k _ E8).mono ?_
  rw [show (cS 0 1).state = 1 from rfl]
  rintro e w12 ⟨rfl, rfl⟩
  go_wp2_with fail
  go_ret
  exact ⟨rfl, d8⟩
end Go.Proofs.Ytjpmfmmgmlnanaa
