/-
  The walk of the statement LeaseEnds.
-/
import Derived.Test.YtjpmfmmgmlnanaaLs18
namespace Go.Proofs.Ytjpmfmmgmlnanaa
open Go.RowKit

/-- It has the address till secs, had at 0; the clock stands before t. -/
structure EI (secs t : Int) (c : Cl) : Prop where
  st : 3 ≤ c.state
  til : c.til = secs
  had : c.had = 0
  now : c.now = t - 1
  sent0 : 0 ≤ c.sent
  sent1 : c.sent ≤ t - 1
  wait0 : 0 ≤ c.wait
  wait1 : c.wait ≤ 64
  sends0 : 0 ≤ c.sends
  sends1 : c.sends ≤ t + 1
  xid0 : 0 ≤ c.xid
  xid1 : c.xid < 4294967296
theorem EI.first (secs draw : Int) (d0 : 0 ≤ draw) (d1 : draw < 4294967296) : EI secs 1 (cH 0 draw secs 0) := by
  constructor <;> simp only [cH] <;> omega
theorem EI.ok {secs t : Int} {c : Cl} (h : EI secs t c) (h0 : 1 ≤ t) (h1 : t ≤ secs) (h2 : secs ≤ 2000) : c.ok := by
  obtain ⟨a1, a2, a3, a4, a5, a6, a7, a8, a9, a10, a11, a12⟩ := h
  constructor <;> omega
theorem EI.tick {secs t draw : Int} {c : Cl} (h : EI secs t c) (d0 : 0 ≤ draw) (d1 : draw < 4294967296) (h0 : 1 ≤ t) (h1 : t < secs) (h2 : secs ≤ 2000) : EI secs (t + 1) (c.tick t draw).1 := by
  obtain ⟨a1, a2, a3, a4, a5, a6, a7, a8, a9, a10, a11, a12⟩ := h
  have e1 : c.time t = { c with now := t } := by rw [Cl.time, if_pos ⟨by omega, by omega⟩]
  have e2 : ({ c with now := t } : Cl).late t = { c with now := t } := by
    rw [Cl.late, if_neg]
    rintro ⟨_, h⟩
    have h : c.til ≤ t := h
    omega
  rw [Cl.tick, e1]
  simp only [e2]
  unfold Cl.go Cl.again
  dsimp only
  split
  · omega
  split
  · split <;> constructor <;> simp only [Cl.start] <;> omega
  split
  · constructor <;> simp only [Cl.start] <;> omega
  split
  · constructor <;> dsimp only <;> omega
  split
  · omega
  split
  · omega
  · constructor <;> simp only [Cl.send] <;> omega
def bdL (c : Cl) : Array Value := bdC c.addr c.mask c.router c.server c.til
theorem EI.last {secs draw : Int} {c : Cl} (h : EI secs secs c) (h1 : 60 ≤ secs) (h2 : secs ≤ 2000) : ∃ c', c.tick secs draw = (c', true) ∧ c'.state = 1 ∧ c'.msg.2 = [(53, [1]), (55, [1, 3, 6])] := by
  obtain ⟨a1, a2, a3, a4, a5, a6, a7, a8, a9, a10, a11, a12⟩ := h
  have e1 : c.time secs = { c with now := secs } := by rw [Cl.time, if_pos ⟨by omega, by omega⟩]
  have e2 : ({ c with now := secs } : Cl).late secs = ({ c with now := secs } : Cl).lose := by
    rw [Cl.late, if_pos]
    exact ⟨a1, by show c.til ≤ secs; omega⟩
  rw [Cl.tick, e1]
  simp only [e2]
  unfold Cl.go
  exact ⟨_, if_pos rfl, rfl, by simp [Cl.msg, Cl.start]⟩
def ERel (w : World) (g : Nat) (secs : Int) (tv : Value) (wr : World) : Prop :=
  ∃ t c, tv = .int .i64 t ∧ EI secs t c ∧ 1 ≤ t ∧ t ≤ secs ∧ CB wr g c ∧ Below w.heap.size w wr

set_option maxRecDepth 100000 in
set_option maxHeartbeats 4000000 in
theorem leaseEnds_in (w : World) (secs draw : Int) (h1 : 60 ≤ secs) (h2 : secs ≤ 2000) (d0 : 0 ≤ draw) (d1 : draw < 4294967296) : Calls Try.prog 4 #[.int .u32 secs, .int .u32 draw] w (TruePost w) := by
  have x1 : decide (secs < 60) = false := decide_eq_false (by omega)
  have x2 : decide (2000 < secs) = false := decide_eq_false (by omega)
  go_enter Try.func4, Try.ntmps4
  go_wp2_with fail
  refine (awake16_any w).mono ?_
  rintro e w0 ⟨rfl, q0⟩
  go_wp2_with fail
  refine (lmac_any w0).mono ?_
  rintro e w1 ⟨rfl, q1⟩
  replace q1 := q0.trans (q1.mono q0.size)
  go_wp2_with fail
  refine (cnew_any w1 lmac).mono ?_
  rintro e w2 ⟨g, rfl, hg1, C2, q2⟩
  have G0 : w.heap.size ≤ g := Nat.le_trans q1.size hg1
  replace q2 := q1.trans (q2.mono q1.size)
  clear x1 x2
  go_wp2_with fail
  refine (ctick_any w2 g _ C2 0 draw (new_ok lmac)).mono ?_
  rw [tick_new 0 draw (by decide) (by decide)]
  rintro e w3 ⟨v3, rfl, C3, g3, -⟩
  have b3 := below_row q2 g3 G0 (Nat.le_refl _)
  have hg3 : g < w3.heap.size := heap_lt C3
  go_wp2_with fail
  refine (word_at w3 2 2 rfl draw a5 _ rfl secs (by omega) (by omega)).mono ?_
  rintro e w4 ⟨A4, n4, cc4, l4, rfl, O4, L4, q4⟩
  have C4 := C3.below q4
  have b4 := b3.trans (q4.mono b3.size)
  go_wp2_with fail
  refine (get_offer w4 g w3.heap.size (cS 0 draw) C4 draw a5 secs A4 n4 cc4 l4 O4 L4 hg3 0 (cS 0 draw) (time_same _ _ (Int.le_refl _)) (cS_ok 0 draw (by decide) (by decide) d0 d1) rfl rfl rfl a5_ne).mono ?_
  rw [cS_asks]
  rintro e w5 ⟨v5, rfl, C5, g5, -⟩
  have b5 := below_row b4 g5 G0 (Nat.le_refl _)
  have hg5 : g < w5.heap.size := heap_lt C5
  clear C2 C3 C4 O4 L4 q0 q1 q2 g3 b3 q4 b4 g5
  go_wp2_with fail
  refine (word_at w5 5 5 rfl draw a5 _ rfl secs (by omega) (by omega)).mono ?_
  rintro e wa ⟨Aa, na, cca, la, rfl, Oa, La, qa⟩
  have Ca := C5.below qa
  have ba := b5.trans (qa.mono b5.size)
  go_wp2_with fail
  refine (get_ack wa g w5.heap.size (cO 0 draw) Ca draw a5 secs (by omega) (by omega) Aa na cca la Oa La hg5 0 (cO 0 draw) (time_same _ _ (Int.le_refl _)) (cO_ok 0 draw (by decide) (by decide) d0 d1) rfl rfl (.inl ⟨rfl, rfl⟩) a5_ne).mono ?_
  rw [show (cO 0 draw).acked a5 secs = cH 0 draw secs 0 by rw [← cO_acked 0 draw secs 0 (by omega) (by decide) (by decide), time_same (cO 0 draw) 0 (Int.le_refl _)]]
  rintro e wb ⟨vb, rfl, Cb, gb, -⟩
  have bb := below_row ba gb G0 (Nat.le_refl _)
  have hei := EI.first secs draw d0 d1
  have HC := Lib.hid Cb
  have HB := Lib.hid bb
  have HE := Lib.hid hei
  clear C5 Ca Oa La b5 qa ba gb Cb bb hei
  go_wp2_with fail
  go_loopw [6] (fun tv wr => ERel w g secs tv wr) (fun tv _ => (secs - intOf tv).toNat)
  case atStart => exact ⟨1, _, rfl, HE.out, by decide, by omega, HC.out, HB.out⟩
  case round =>
    clear HC HB HE
    obtain ⟨t, c, rfl, hei, t0, t1, C, B⟩ := hrel
    have HE := Lib.hid hei
    have hok := hei.ok t0 t1 h2
    clear hei
    by_cases hlt : t < secs
    · have x1 : decide (t < secs) = true := decide_eq_true hlt
      have hei2 := HE.out.tick d0 d1 t0 hlt h2
      obtain ⟨r, hr⟩ : ∃ r, c.tick t draw = r := ⟨_, rfl⟩
      rw [hr] at hei2
      obtain ⟨c', bo⟩ := r
      have HR := Lib.hid hr
      have HE2 := Lib.hid hei2
      clear hr hei2
      go_wp2_with fail
      refine (ctick_any wr g c C t draw hok).mono ?_
      rw [HR.out]
      rintro e w3 ⟨v3, rfl, C3, g3, -⟩
      have B3 := below_row B g3 G0 (Nat.le_refl _)
      clear C B g3 x1 hok
      go_wp2_with fail
      refine (cbnd_any w3 g c' C3).mono ?_
      rw [show decide (3 ≤ c'.state) = true from decide_eq_true HE2.out.st, show bdC c'.addr c'.mask c'.router c'.server c'.til = bdL c' from rfl]
      rintro e w8 ⟨rfl, q8⟩
      have C8 := C3.below q8
      have b8 := B3.trans (q8.mono B3.size)
      clear C3 B3 q8
      go_upto_region 14 with ((with_reducible apply at_store_new 41); (case hx => exact rfl); (case hy => exact rfl); (case hg => first | rfl | simp); (case hi => kernel_rfl); (case hold => rfl); (case h1 => kernel_rfl))
      have C9 := C8.below ((Below.refl _ w8).alloc (Nat.le_refl _) (.cells (bdL c') 41))
      have b9 := b8.alloc b8.size (.cells (bdL c') 41)
      generalize w8.alloc (.cells (bdL c') 41) = w9 at C9 b9 ⊢
      clear C8 b8
      go_wp2_with fail
      go_roundw
      case rel => exact ⟨t + 1, c', rfl, HE2.out, by omega, by omega, C9, b9⟩
      case measure => simp [intOf]; omega
    · have x1 : decide (t < secs) = false := decide_eq_false hlt
      obtain rfl : t = secs := by omega
      obtain ⟨c', ht, hs1, hm1⟩ := HE.out.last (draw := draw) h1 h2
      have HM := Lib.hid hm1
      have HT := Lib.hid ht
      have HS := Lib.hid hs1
      clear hm1 ht hs1 hlt
      go_wp2_with fail
      refine (ctick_any wr g c C t draw hok).mono ?_
      rw [HT.out]
      rintro e w3 ⟨v3, rfl, C3, g3, M3⟩
      replace M3 : Msl w3 wr.heap.size v3 (some c'.msg) := M3
      have B3 := below_row B g3 G0 (Nat.le_refl _)
      obtain ⟨b3, A3, n3, c3, l3, rfl, hb3, P3, O3, L3⟩ := M3.some
      have T3 := Lib.hid (show typeO (obs l3) = 1 by rw [L3, HM.out, typeO_cons 1 _ (by decide) (by decide)]; rfl)
      have LL3 := Lib.hid (L3.trans HM.out)
      clear C B g3 M3 L3 x1 hok
      go_wp2_with fail
      refine (cbnd_any w3 g c' C3).mono ?_
      rw [show decide (3 ≤ c'.state) = false by rw [HS.out]; rfl, show bdC c'.addr c'.mask c'.router c'.server c'.til = bdL c' from rfl]
      rintro e w8 ⟨rfl, q8⟩
      have C8 := C3.below q8
      have P8 := below_at q8 P3 (heap_lt P3)
      have O8 := O3.below q8
      have b8 := B3.trans (q8.mono B3.size)
      clear C3 B3 P3 O3 q8
      go_upto_region 18 with ((with_reducible apply at_store_new 41); (case hx => exact rfl); (case hy => exact rfl); (case hg => first | rfl | simp); (case hi => kernel_rfl); (case hold => rfl); (case h1 => kernel_rfl))
      have q9 : Below w8.heap.size w8 (w8.alloc (.cells (bdL c') 41)) := (Below.refl _ w8).alloc (Nat.le_refl _) _
      have C9 := C8.below q9
      have P9 := below_at q9 P8 (heap_lt P8)
      have O9 := O8.below q9
      have b9 := b8.alloc b8.size (.cells (bdL c') 41)
      generalize w8.alloc (.cells (bdL c') 41) = w9 at C9 b9 P9 O9 q9 ⊢
      clear C8 P8 O8 q9 b8
      go_wp2_with ((with_reducible apply at_load_guard 37); (case hx => exact rfl); (case hg => exact P9); (case hw => first | rfl | kernel_rfl); (case hu => exact Try.underlying37); (case hd => rfl); (case hi => kernel_rfl))
      refine (type_any w9 c'.msg.1 A3 n3 c3 l3 O9.os (bodies_of LL3.out (by simp))).mono ?_
      rw [T3.out]
      rintro e w10 ⟨rfl, q10⟩
      have b10 := b9.trans (q10.mono b9.size)
      have C10 := C9.below q10
      clear P9 O9 C9 b9
      go_wp2_with fail
      refine (cstate_any w10 g _ C10).mono ?_
      rw [HS.out]
      rintro e w12 ⟨rfl, rfl⟩
      go_wp2_with fail
      go_ret
      exact ⟨rfl, b10⟩

theorem leaseEnds_out (w : World) (secs draw : Int) (h : secs < 60 ∨ 2000 < secs) : Calls Try.prog 4 #[.int .u32 secs, .int .u32 draw] w (TruePost w) := by
  rcases Int.lt_or_le secs 60 with k1 | k1
  case' inl =>
    have d1 : decide (secs < 60) = true := decide_eq_true k1
  case' inr =>
    have d1 : decide (secs < 60) = false := decide_eq_false (by omega)
    have d2 : decide (2000 < secs) = true := decide_eq_true (by omega)
  all_goals
    go_enter Try.func4, Try.ntmps4
    go_wp2_with fail
    refine (awake16_any w).mono ?_
    rintro e w0 ⟨rfl, q0⟩
    go_wp2_with fail
    go_ret
    exact ⟨rfl, q0⟩
theorem leaseEnds_all (w : World) (secs : Int) (draw : Int) (w1 : (Lit.int .u32 draw).wf = true) : Calls Try.prog 4 #[.int .u32 secs, .int .u32 draw] w (TruePost w) := by
  have hd := wf_u32 w1
  by_cases h : secs < 60 ∨ 2000 < secs
  · exact leaseEnds_out w secs draw h
  · exact leaseEnds_in w secs draw (by omega) (by omega) hd.1 hd.2
end Go.Proofs.Ytjpmfmmgmlnanaa
