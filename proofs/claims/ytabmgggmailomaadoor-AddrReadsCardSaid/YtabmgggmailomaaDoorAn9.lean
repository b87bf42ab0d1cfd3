/-
  awake of package gatehouselaw3.
-/
import Derived.Test.YtabmgggmailomaaDoorAn8
namespace Go.Proofs.YtabmgggmailomaaDoor
open Go.RowKit

def VP (w : World) (v : Value) (e : Ending) (w' : World) : Prop := e = .returned v ∧ Below w.heap.size w w'
def cA : Array Value := #[.int .u8 10, .int .u8 0, .int .u8 0, .int .u8 1]
def cN : Array Value := #[.int .u8 10, .int .u8 0, .int .u8 0, .int .u8 0, .int .i64 8]
def cM : Array Value := #[.int .u8 2, .int .u8 0, .int .u8 0, .int .u8 0, .int .u8 0, .int .u8 171]
theorem parse_c (w : World) : Calls Tryd.prog 10 #[.string ⟨#[49, 48, 46, 48, 46, 48, 46, 49]⟩] w (VP w (.tuple #[.agg cA, .int .i64 0])) := by
  refine (parse_any w [49, 48, 46, 48, 46, 48, 46, 49] (by decide)).mono ?_
  rintro e w' ⟨rfl, h⟩
  exact ⟨by kernel_rfl, h⟩
theorem parseNet_c (w : World) : Calls Tryd.prog 11 #[.string ⟨#[49, 48, 46, 48, 46, 48, 46, 48, 47, 56]⟩] w (VP w (.tuple #[.agg cN, .int .i64 0])) := by
  refine (parseNet_any w [49, 48, 46, 48, 46, 48, 46, 48, 47, 56] (by decide)).mono ?_
  rintro e w' ⟨rfl, h⟩
  exact ⟨by kernel_rfl, h⟩
theorem parseMac_c (w : World) : Calls Tryd.prog 12 #[.string ⟨#[48, 50, 58, 48, 48, 58, 48, 48, 58, 48, 48, 58, 48, 48, 58, 97, 66]⟩] w (VP w (.tuple #[.agg cM, .int .i64 0])) := by
  refine (parseMac_any w [48, 50, 58, 48, 48, 58, 48, 48, 58, 48, 48, 58, 48, 48, 58, 97, 66] (by decide)).mono ?_
  rintro e w' ⟨rfl, h⟩
  exact ⟨by kernel_rfl, h⟩
theorem last_c (w : World) : Calls Tryd.prog 25 #[.agg cN] w (VP w (.agg #[.int .u8 10, .int .u8 255, .int .u8 255, .int .u8 255])) := by
  refine (last_any w ⟨10, 0, 0, 0⟩ 8).mono ?_
  rintro e w' ⟨rfl, h⟩
  exact ⟨by kernel_rfl, h⟩
theorem macText_c (w : World) : Calls Tryd.prog 21 #[.agg cM] w (VP w (.string ⟨#[48, 50, 58, 48, 48, 58, 48, 48, 58, 48, 48, 58, 48, 48, 58, 97, 98]⟩)) := by
  refine (macText_any w ⟨2, 0, 0, 0, 0, 171⟩).mono ?_
  rintro e w' ⟨rfl, h⟩
  exact ⟨by kernel_rfl, h⟩
theorem text_c (w : World) (hp : powIs w) : Calls Tryd.prog 19 #[.agg cA] w (VP w (.string ⟨#[49, 48, 46, 48, 46, 48, 46, 49]⟩)) := by
  refine (text_any w hp ⟨10, 0, 0, 1⟩).mono ?_
  rintro e w' ⟨rfl, h⟩
  exact ⟨by kernel_rfl, h⟩
theorem netText_c (w : World) (hp : powIs w) : Calls Tryd.prog 20 #[.agg cN] w (VP w (.string ⟨#[49, 48, 46, 48, 46, 48, 46, 48, 47, 56]⟩)) := by
  refine (netText_any w hp ⟨10, 0, 0, 0⟩ 8 (by decide)).mono ?_
  rintro e w' ⟨rfl, h⟩
  exact ⟨by kernel_rfl, h⟩

set_option maxRecDepth 100000 in
set_option maxHeartbeats 4000000 in
theorem awake3_any (w : World) (hp : powIs w) : Calls Tryd.prog 9 #[] w (TruePost w) := by
  have HP := Lib.hid hp
  clear hp
  go_enter Tryd.func9, Tryd.ntmps9
  go_wp2_with fail
  refine (parse_c w).mono ?_
  rintro e w1 ⟨rfl, b1⟩
  go_upto_region 2 with ((with_reducible apply at_store_new 24); (case hx => exact rfl); (case hy => exact rfl); (case hg => first | rfl | simp); (case hi => kernel_rfl); (case hold => rfl); (case h1 => kernel_rfl))
  have q2 : Below w1.heap.size w1 (w1.alloc (.cells cA 24)) := (Below.refl _ w1).alloc (Nat.le_refl _) _
  have A2 := heap_alloc_new w1 (.cells cA 24)
  have b2 := b1.trans (q2.mono b1.size)
  obtain ⟨ga, hga⟩ : ∃ ga, w1.heap.size = ga := ⟨_, rfl⟩
  rw [hga] at A2 ⊢
  generalize w1.alloc (.cells cA 24) = w2 at A2 b2 ⊢
  clear hga q2 b1
  go_wp2_with fail
  refine (parseNet_c w2).mono ?_
  rintro e w3 ⟨rfl, q3⟩
  have A3 := below_at q3 A2 (heap_lt A2)
  have b3 := b2.trans (q3.mono b2.size)
  clear A2 b2 q3
  go_upto_region 3 with ((with_reducible apply at_store_new 29); (case hx => exact rfl); (case hy => exact rfl); (case hg => first | rfl | simp); (case hi => kernel_rfl); (case hold => rfl); (case h1 => kernel_rfl))
  have q4 : Below w3.heap.size w3 (w3.alloc (.cells cN 29)) := (Below.refl _ w3).alloc (Nat.le_refl _) _
  have A4 := below_at q4 A3 (heap_lt A3)
  have N4 := heap_alloc_new w3 (.cells cN 29)
  have b4 := b3.trans (q4.mono b3.size)
  obtain ⟨gn, hgn⟩ : ∃ gn, w3.heap.size = gn := ⟨_, rfl⟩
  rw [hgn] at N4 ⊢
  generalize w3.alloc (.cells cN 29) = w4 at A4 N4 b4 ⊢
  clear hgn q4 b3 A3
  go_wp2_with fail
  refine (parseMac_c w4).mono ?_
  rintro e w5 ⟨rfl, q5⟩
  have A5 := below_at q5 A4 (heap_lt A4)
  have N5 := below_at q5 N4 (heap_lt N4)
  have b5 := b4.trans (q5.mono b4.size)
  clear A4 N4 b4 q5
  go_upto_region 4 with ((with_reducible apply at_store_new 33); (case hx => exact rfl); (case hy => exact rfl); (case hg => first | rfl | simp); (case hi => kernel_rfl); (case hold => rfl); (case h1 => kernel_rfl))
  have q6 : Below w5.heap.size w5 (w5.alloc (.cells cM 33)) := (Below.refl _ w5).alloc (Nat.le_refl _) _
  have A6 := below_at q6 A5 (heap_lt A5)
  have N6 := below_at q6 N5 (heap_lt N5)
  have M6 := heap_alloc_new w5 (.cells cM 33)
  have b6 := b5.trans (q6.mono b5.size)
  obtain ⟨gm, hgm⟩ : ∃ gm, w5.heap.size = gm := ⟨_, rfl⟩
  rw [hgm] at M6 ⊢
  generalize w5.alloc (.cells cM 33) = w6 at A6 N6 M6 b6 ⊢
  clear hgm q6 b5 A5 N5
  have e1 : ∀ w, (binOp .eql 24 (.agg cA) (.agg #[.int .u8 10, .int .u8 0, .int .u8 0, .int .u8 1])).run Tryd.prog w = .ok (.bool true) w := fun w => run_eql_ad w ⟨10, 0, 0, 1⟩ ⟨10, 0, 0, 1⟩
  have e2 : ∀ w, (binOp .eql 24 (.agg #[.int .u8 10, .int .u8 255, .int .u8 255, .int .u8 255]) (.agg #[.int .u8 10, .int .u8 255, .int .u8 255, .int .u8 255])).run Tryd.prog w = .ok (.bool true) w := fun w => run_eql_ad w ⟨10, 255, 255, 255⟩ ⟨10, 255, 255, 255⟩
  go_wp2_with (first
    | ((with_reducible apply at_load_guard 24); (case hx => exact rfl); (case hg => exact A6); (case hw => first | rfl | kernel_rfl); (case hu => exact Tryd.underlying24); (case hd => rfl); (case hi => kernel_rfl))
    | ((with_reducible apply at_load_guard 29); (case hx => exact rfl); (case hg => exact N6); (case hw => first | rfl | kernel_rfl); (case hu => exact Tryd.underlying29); (case hd => rfl); (case hi => kernel_rfl)))
  refine (last_c w6).mono ?_
  rintro e w7 ⟨rfl, q7⟩
  have A7 := below_at q7 A6 (heap_lt A6)
  have N7 := below_at q7 N6 (heap_lt N6)
  have M7 := below_at q7 M6 (heap_lt M6)
  have b7 := b6.trans (q7.mono b6.size)
  clear A6 N6 M6 b6 q7
  go_wp2_with ((with_reducible apply at_load_guard 33); (case hx => exact rfl); (case hg => exact M7); (case hw => first | rfl | kernel_rfl); (case hu => exact Tryd.underlying33); (case hd => rfl); (case hi => kernel_rfl))
  refine (macText_c w7).mono ?_
  rintro e w8 ⟨rfl, q8⟩
  have A8 := below_at q8 A7 (heap_lt A7)
  have N8 := below_at q8 N7 (heap_lt N7)
  have b8 := b7.trans (q8.mono b7.size)
  clear A7 N7 M7 b7 q8
  go_wp2_with ((with_reducible apply at_load_guard 24); (case hx => exact rfl); (case hg => exact A8); (case hw => first | rfl | kernel_rfl); (case hu => exact Tryd.underlying24); (case hd => rfl); (case hi => kernel_rfl))
  refine (text_c w8 (HP.out.below b8)).mono ?_
  rintro e w9 ⟨rfl, q9⟩
  have N9 := below_at q9 N8 (heap_lt N8)
  have b9 := b8.trans (q9.mono b8.size)
  clear A8 N8 b8 q9
  go_wp2_with ((with_reducible apply at_load_guard 29); (case hx => exact rfl); (case hg => exact N9); (case hw => first | rfl | kernel_rfl); (case hu => exact Tryd.underlying29); (case hd => rfl); (case hi => kernel_rfl))
  refine (netText_c w9 (HP.out.below b9)).mono ?_
  rintro e w10 ⟨rfl, q10⟩
  have b10 := b9.trans (q10.mono b9.size)
  go_wp2_with fail
  go_ret
  exact ⟨rfl, b10⟩
end Go.Proofs.YtabmgggmailomaaDoor
