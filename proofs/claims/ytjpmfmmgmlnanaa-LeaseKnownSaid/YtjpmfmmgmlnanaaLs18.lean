/-
  awake of package gatehouselaw16.
-/
import Derived.Test.YtjpmfmmgmlnanaaLs15
namespace Go.Proofs.Ytjpmfmmgmlnanaa
open Go.RowKit

def bd601 : Array Value := bdC a5 ⟨255, 0, 0, 0⟩ ⟨10, 0, 0, 253⟩ s254 601
theorem below_row {H g : Nat} {a b c : World} (h : Below H a b) (k : b.grownBy c (some g)) (hg : H ≤ g) (hH : H ≤ a.heap.size) : Below H a c :=
  ⟨k.os.trans h.os, k.tape.trans h.tape, k.output.trans h.output, Nat.le_trans h.size k.size, fun i hi => (k.block i (by have := h.size; omega) (by intro e; injection e with e; omega)).trans (h.block i hi)⟩
theorem a5_ne : a5 ≠ ad0 := by simp [a5, ad0]
theorem word_at (w : World) (typ : UInt8) (x : Int) (hx : (typ.toNat : Int) = x) (xid : Int) (your : Ad4) (yv : Value) (hy : adV your = yv) (secs : Int) (h0 : 0 ≤ secs) (h1 : secs < 4294967296) :
    Calls Try.prog 14 #[.int .u8 x, .int .u32 xid, yv, .int .u32 secs] w (WordPost w typ xid your secs) := by
  subst hx hy
  exact word_any w typ xid your secs h0 h1
theorem Msl.some {w : World} {H : Nat} {v : Value} {m : Hd × List Ob} (h : Msl w H v (some m)) : ∃ b A n c l, v = .slice (Option.some ⟨b, 0, none⟩) 1 1 ∧ H ≤ b ∧ w.heap[b]? = Option.some (.cells (msC m.1 A n c) 37 (0, 0)) ∧ OA w H A n c l ∧ obs l = m.2 := h

set_option maxRecDepth 100000 in
set_option maxHeartbeats 4000000 in
theorem awake16_any (w : World) : Calls Try.prog 9 #[] w (TruePost w) := by
  go_enter Try.func9, Try.ntmps9
  go_wp2_with fail
  refine (lmac_any w).mono ?_
  rintro e w1 ⟨rfl, q1⟩
  go_wp2_with fail
  refine (cnew_any w1 lmac).mono ?_
  rintro e w2 ⟨g, rfl, hg1, C2, q2⟩
  have G0 : w.heap.size ≤ g := Nat.le_trans q1.size hg1
  replace q2 := q1.trans (q2.mono q1.size)
  go_wp2_with fail
  refine (ctick_any w2 g _ C2 0 7 (new_ok lmac)).mono ?_
  rw [tick_new 0 7 (by decide) (by decide)]
  rintro e w3 ⟨v3, rfl, C3, g3, M3⟩
  replace M3 : Msl w3 w2.heap.size v3 (some (cS 0 7).msg) := M3
  have hg2 : g < w2.heap.size := heap_lt C2
  have hg3 : g < w3.heap.size := heap_lt C3
  go_wp2_with fail
  refine (word_at w3 2 2 rfl 7 a5 _ rfl 600 (by decide) (by decide)).mono ?_
  rintro e w4 ⟨A4, n4, cc4, l4, rfl, O4, L4, q4⟩
  have C4 := C3.below q4
  have M4 := M3.below q4
  clear C2 C3 M3
  go_wp2_with fail
  refine (get_offer w4 g w3.heap.size (cS 0 7) C4 7 a5 600 A4 n4 cc4 l4 O4 L4 hg3 0 (cS 0 7) (time_same _ _ (by decide)) (cS_ok 0 7 (by decide) (by decide) (by decide) (by decide)) rfl rfl rfl a5_ne).mono ?_
  rw [cS_asks]
  rintro e w5 ⟨v5, rfl, C5, g5, M5⟩
  have M5' := M4.grown g5 hg2
  have hg5 : g < w5.heap.size := heap_lt C5
  clear C4 M4 O4 L4
  go_wp2_with fail
  refine (word_at w5 5 5 rfl 7 a5 _ rfl 600 (by decide) (by decide)).mono ?_
  rintro e w6 ⟨A6, n6, cc6, l6, rfl, O6, L6, q6⟩
  have C6 := C5.below q6
  have M6 := M5.below q6
  have M6' := M5'.below q6
  clear C5 M5 M5'
  go_wp2_with fail
  refine (get_ack w6 g w5.heap.size (cO 0 7) C6 7 a5 600 (by decide) (by decide) A6 n6 cc6 l6 O6 L6 hg5 1 _ rfl ((cO_ok 0 7 (by decide) (by decide) (by decide) (by decide)).time 1) rfl rfl (.inl ⟨rfl, rfl⟩) a5_ne).mono ?_
  rw [cO_acked 0 7 600 1 (by decide) (by decide) (by decide), show (!decide (3 ≤ ((cO 0 7).time 1).state) || !adeq ((cO 0 7).time 1).addr a5) = true by simp [cO, Cl.time]]
  rintro e w7 ⟨v7, rfl, C7, g7, M7⟩
  have N7 := M6.grown g7 (by have := q4.size; omega)
  have N7' := M6'.grown g7 hg2
  have hv7 : v7 = .slice none 0 0 := M7
  subst hv7
  have b3 := below_row q2 g3 G0 (Nat.le_refl _)
  have b4 := b3.trans (q4.mono b3.size)
  have b5 := below_row b4 g5 G0 (Nat.le_refl _)
  have b6 := b5.trans (q6.mono b5.size)
  have b7 := below_row b6 g7 G0 (Nat.le_refl _)
  clear b3 b4 b5 b6 q1 q2 g3 q4 g5 q6 g7
  clear C6 M6 M6' O6 L6 M7
  go_wp2_with fail
  refine (cbnd_any w7 g _ C7).mono ?_
  rw [show decide (3 ≤ (cH 0 7 600 1).state) = true from rfl, show bdC (cH 0 7 600 1).addr (cH 0 7 600 1).mask (cH 0 7 600 1).router (cH 0 7 600 1).server (cH 0 7 600 1).til = bd601 from rfl]
  rintro e w8 ⟨rfl, q8⟩
  have C8 := C7.below q8
  have b8 := b7.trans (q8.mono b7.size)
  have N8 := N7.below q8
  have N8' := N7'.below q8
  clear C7 N7 N7'
  go_upto_region 8 with ((with_reducible apply at_store_new 41); (case hx => exact rfl); (case hy => exact rfl); (case hg => first | rfl | simp); (case hi => kernel_rfl); (case hold => rfl); (case h1 => kernel_rfl))
  obtain ⟨b3, A3, n3, c3, l3, rfl, hb3, P3, O3, L3⟩ := N8'.some
  obtain ⟨b5, A5, n5, c5, l5, rfl, hb5, P5, O5, L5⟩ := N8.some
  have q9 : Below w8.heap.size w8 (w8.alloc (.cells bd601 41)) := (Below.refl _ w8).alloc (Nat.le_refl _) _
  have b9 := b8.alloc b8.size (.cells bd601 41)
  have X9 := heap_alloc_new w8 (.cells bd601 41)
  have C9 := C8.below q9
  have P9 := below_at q9 P3 (heap_lt P3)
  have R9 := below_at q9 P5 (heap_lt P5)
  have O9 := O3.below q9
  have S9 := O5.below q9
  obtain ⟨x, hx⟩ : ∃ x, w8.heap.size = x := ⟨_, rfl⟩
  have gx : g < x ∧ b3 < x ∧ b5 < x := by have := heap_lt C8; have := heap_lt P3; have := heap_lt P5; omega
  generalize w8.alloc (.cells bd601 41) = w9 at q9 b9 X9 C9 P9 R9 O9 S9 ⊢
  rw [hx] at X9 ⊢
  have HX := Lib.hid hx
  clear hx N8 N8' C8 P3 P5 O3 O5
  go_wp2_with ((with_reducible apply at_load_guard 37); (case hx => exact rfl); (case hg => exact P9); (case hw => first | rfl | kernel_rfl); (case hu => exact Try.underlying37); (case hd => rfl); (case hi => kernel_rfl))
  have t3 : typeO (obs l3) = 1 := by rw [L3, cS_msg, typeO_cons 1 _ (by decide) (by decide)]; rfl
  have t5 : typeO (obs l5) = 3 := by rw [L5, cO_msg, typeO_cons 3 _ (by decide) (by decide)]; rfl
  refine (type_any w9 (cS 0 7).msg.1 A3 n3 c3 l3 O9.os (bodies_of L3 (by rw [cS_msg]; simp))).mono ?_
  rw [t3]
  rintro e w10 ⟨rfl, q10⟩
  have b10 := b9.trans (q10.mono b9.size)
  have P10 := below_at q10 P9 (heap_lt P9)
  have R10 := below_at q10 R9 (heap_lt R9)
  have X10 := below_at q10 X9 (heap_lt X9)
  have C10 := C9.below q10
  have S10 := S9.below q10
  have d2 : w10.cell? ⟨b3, 2, none⟩ = some (.int .u32 7) := (cells_of P10).1 2
  clear P9 R9 X9 C9 S9 O9 P10
  go_wp2_with ((with_reducible apply at_load_guard 37); (case hx => exact rfl); (case hg => exact R10); (case hw => first | rfl | kernel_rfl); (case hu => exact Try.underlying37); (case hd => rfl); (case hi => kernel_rfl))
  refine (type_any w10 (cO 0 7).msg.1 A5 n5 c5 l5 S10.os (bodies_of L5 (by rw [cO_msg]; simp [a5, s254, Ad4.bytes]))).mono ?_
  rw [t5]
  rintro e w11 ⟨rfl, q11⟩
  have b11 := b10.trans (q11.mono b10.size)
  have X11 := below_at q11 X10 (heap_lt X10)
  have C11 := C10.below q11
  clear X10 C10 S10 R10 d2
  have he : ∀ w : World, (binOp .eql 41 (.agg bd601) (.agg #[.int .u8 10, .int .u8 0, .int .u8 0, .int .u8 5, .int .u8 255, .int .u8 0, .int .u8 0, .int .u8 0, .int .u8 10, .int .u8 0, .int .u8 0, .int .u8 253, .int .u8 10, .int .u8 0, .int .u8 0, .int .u8 254, .int .i64 601])).run Try.prog w = .ok (.bool true) w :=
    fun w => run_eql_bd w a5 ⟨255, 0, 0, 0⟩ ⟨10, 0, 0, 253⟩ s254 601
  go_wp2_with ((with_reducible apply at_load_guard 41); (case hx => exact rfl); (case hg => exact X11); (case hw => first | rfl | kernel_rfl); (case hu => exact Try.underlying41); (case hd => rfl); (case hi => kernel_rfl))
  refine (cstate_any w11 g _ C11).mono ?_
  rintro e w12 ⟨rfl, rfl⟩
  go_wp2_with fail
  go_ret
  exact ⟨rfl, b11⟩
end Go.Proofs.Ytjpmfmmgmlnanaa
