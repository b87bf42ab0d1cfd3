/-
  The walk of the statement AddrKnown.
-/
import Derived.Test.YtabmgggmailomaaDoorAn9
namespace Go.Proofs.YtabmgggmailomaaDoor
open Go.RowKit

theorem parse_bad (w : World) (s : List UInt8) (hl : s.length ≤ 100) (h : parseV s = (ad0, 9)) : Calls Tryd.prog 10 #[.string (str s)] w (VP w (.tuple #[.agg z4, .int .i64 9])) := by
  refine (parse_any w s (by omega)).mono ?_
  rintro e w' ⟨rfl, hb⟩
  exact ⟨by rw [h]; rfl, hb⟩
theorem parseNet_bad (w : World) (s : List UInt8) (er : Int) (hl : s.length ≤ 100) (h : parseNV s = ((ad0, 0), er)) : Calls Tryd.prog 11 #[.string (str s)] w (VP w (.tuple #[.agg z5, .int .i64 er])) := by
  refine (parseNet_any w s (by omega)).mono ?_
  rintro e w' ⟨rfl, hb⟩
  exact ⟨by rw [h]; rfl, hb⟩
theorem parseMac_bad (w : World) (s : List UInt8) (hl : s.length ≤ 100) (h : parseMV s = (mac0, 9)) : Calls Tryd.prog 12 #[.string (str s)] w (VP w (.tuple #[.agg z6, .int .i64 9])) := by
  refine (parseMac_any w s (by omega)).mono ?_
  rintro e w' ⟨rfl, hb⟩
  exact ⟨by rw [h]; rfl, hb⟩
set_option maxRecDepth 100000 in
set_option maxHeartbeats 4000000 in
theorem addrKnown_all (w : World) (hp : powIs w) : Calls Tryd.prog 3 #[] w (TruePost w) := by
  go_enter Tryd.func3, Tryd.ntmps3
  go_wp2_with fail
  refine (awake3_any w hp).mono ?_
  rintro e w0 ⟨rfl, b0⟩
  go_wp2_with fail
  refine (parse_bad w0 [49, 48, 46, 48, 46, 48] (by decide) (by kernel_rfl)).mono ?_
  rintro e p0 ⟨rfl, q0⟩
  have c0 := b0.trans (q0.mono b0.size)
  go_upto_region 4 with ((with_reducible apply at_store_new 24); (case hx => exact rfl); (case hy => exact rfl); (case hg => first | rfl | simp); (case hi => kernel_rfl); (case hold => rfl); (case h1 => kernel_rfl))
  have d0 := c0.alloc c0.size (.cells z4 24)
  generalize p0.alloc (.cells z4 24) = r0 at d0 ⊢
  clear c0 q0 b0
  go_wp2_with fail
  refine (parse_bad r0 [49, 48, 46, 48, 46, 48, 46, 50, 53, 54] (by decide) (by kernel_rfl)).mono ?_
  rintro e p1 ⟨rfl, q1⟩
  have c1 := d0.trans (q1.mono d0.size)
  go_upto_region 5 with ((with_reducible apply at_store_new 24); (case hx => exact rfl); (case hy => exact rfl); (case hg => first | rfl | simp); (case hi => kernel_rfl); (case hold => rfl); (case h1 => kernel_rfl))
  have d1 := c1.alloc c1.size (.cells z4 24)
  generalize p1.alloc (.cells z4 24) = r1 at d1 ⊢
  clear c1 q1 d0
  go_wp2_with fail
  refine (parse_bad r1 [49, 48, 46, 48, 46, 48, 46, 48, 49] (by decide) (by kernel_rfl)).mono ?_
  rintro e p2 ⟨rfl, q2⟩
  have c2 := d1.trans (q2.mono d1.size)
  go_upto_region 6 with ((with_reducible apply at_store_new 24); (case hx => exact rfl); (case hy => exact rfl); (case hg => first | rfl | simp); (case hi => kernel_rfl); (case hold => rfl); (case h1 => kernel_rfl))
  have d2 := c2.alloc c2.size (.cells z4 24)
  generalize p2.alloc (.cells z4 24) = r2 at d2 ⊢
  clear c2 q2 d1
  go_wp2_with fail
  refine (parseNet_bad r2 [49, 48, 46, 48, 46, 48, 46, 49, 47, 56] 1 (by decide) (by kernel_rfl)).mono ?_
  rintro e p3 ⟨rfl, q3⟩
  have c3 := d2.trans (q3.mono d2.size)
  go_upto_region 7 with ((with_reducible apply at_store_new 29); (case hx => exact rfl); (case hy => exact rfl); (case hg => first | rfl | simp); (case hi => kernel_rfl); (case hold => rfl); (case h1 => kernel_rfl))
  have d3 := c3.alloc c3.size (.cells z5 29)
  generalize p3.alloc (.cells z5 29) = r3 at d3 ⊢
  clear c3 q3 d2
  go_wp2_with fail
  refine (parseNet_bad r3 [49, 48, 46, 48, 46, 48, 46, 48, 47, 51, 51] 9 (by decide) (by kernel_rfl)).mono ?_
  rintro e p4 ⟨rfl, q4⟩
  have c4 := d3.trans (q4.mono d3.size)
  go_upto_region 8 with ((with_reducible apply at_store_new 29); (case hx => exact rfl); (case hy => exact rfl); (case hg => first | rfl | simp); (case hi => kernel_rfl); (case hold => rfl); (case h1 => kernel_rfl))
  have d4 := c4.alloc c4.size (.cells z5 29)
  generalize p4.alloc (.cells z5 29) = r4 at d4 ⊢
  clear c4 q4 d3
  go_wp2_with fail
  refine (parseMac_bad r4 [48, 50, 58, 48, 48, 58, 48, 48, 58, 48, 48, 58, 48, 48, 58, 48] (by decide) (by kernel_rfl)).mono ?_
  rintro e p5 ⟨rfl, q5⟩
  have c5 := d4.trans (q5.mono d4.size)
  go_upto_region 9 with ((with_reducible apply at_store_new 33); (case hx => exact rfl); (case hy => exact rfl); (case hg => first | rfl | simp); (case hi => kernel_rfl); (case hold => rfl); (case h1 => kernel_rfl))
  have d5 := c5.alloc c5.size (.cells z6 33)
  generalize p5.alloc (.cells z6 33) = r5 at d5 ⊢
  clear c5 q5 d4
  have e2 : ∀ w, (binOp .eql 24 (adV (of4 16909060)) (.agg #[.int .u8 1, .int .u8 2, .int .u8 3, .int .u8 4])).run Tryd.prog w = .ok (.bool true) w := fun w => run_eql_ad w ⟨1, 2, 3, 4⟩ ⟨1, 2, 3, 4⟩
  go_wp2_with fail
  refine (numa_any r5 ⟨1, 2, 3, 4⟩).mono ?_
  rw [show ((numA ⟨1, 2, 3, 4⟩ : Nat) : Int) = 16909060 from rfl]
  rintro e p6 ⟨rfl, q6⟩
  have d6 := d5.trans (q6.mono d5.size)
  go_wp2_with fail
  refine (ofa_any p6 16909060 (by decide) (by decide)).mono ?_
  rintro e p7 ⟨rfl, q7⟩
  have d7 := d6.trans (q7.mono d6.size)
  go_wp2_with fail
  go_ret
  exact ⟨rfl, d7⟩
end Go.Proofs.YtabmgggmailomaaDoor
