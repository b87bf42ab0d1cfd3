/-
  The script run; the statement TopNames.
-/
import Derived.Test.YtcdacfnfiplidaaGreatDoorTn7
namespace Go.Proofs.YtcdacfnfiplidaaGreatDoor
open Go.RowKit

theorem LO.rowL {w : World} {H n c k : Nat} {t : TypeId} {K : Nat} {A : Option Addr} {l : List Value} (h : TO w H t K A n c k l) (hl : l ≠ []) : ∃ b o, A = some ⟨b, o, none⟩ ∧ b < w.heap.size ∧ (∀ j u, l[j]? = some u → w.cell? ⟨b, o + j, none⟩ = some u) ∧ n ≤ c := by
  obtain ⟨hn, h⟩ := h
  rcases h.2 with ⟨hv, h0⟩ | ⟨g, cap, cur, hv, _, hg, hnc, _⟩
  · exact absurd (List.eq_nil_of_length_eq_zero (by simpa [h0] using h.1)) hl
  · injection hv with hA _ e
    subst hA
    refine ⟨g, 0, rfl, (Array.getElem?_eq_some_iff.1 hg).1, fun j u hu => ?_, by omega⟩
    have := h.cells (g := g) rfl j u hu
    rwa [Addr.add_lit] at this
/-- What stands in the builder behind so many lines. -/
def outT : Nat → List UInt8
  | 0 => []
  | 1 => [48, 10]
  | _ => [48, 10, 110, 111, 110, 101, 10]
set_option maxRecDepth 100000 in
set_option maxHeartbeats 8000000 in
theorem run_any (w : World) (hm : mlIs w) (c : Cf) (U : UsI c) : Calls Tryz.prog 5 #[.agg (cfC c nilS nilS), .string (str tRun)] w (fun e w' => e = .returned (.tuple #[.string ⟨#[48, 10, 110, 111, 110, 101, 10]⟩, .int .i64 0]) ∧ Below w.heap.size w w') := by
  have P0 := heap_alloc_new w (.cells (cfC c nilS nilS) 35)
  have b0 : Below w.heap.size w (w.alloc (.cells (cfC c nilS nilS) 35)) := (Below.refl _ w).alloc (Nat.le_refl _) _
  have m0 := hm.next b0
  have HU := Lib.hid U
  obtain ⟨tr, htr⟩ : ∃ x, str tRun = x := ⟨_, rfl⟩
  have HT := Lib.hid htr
  rw [htr]
  clear U hm htr
  go_enter Tryz.func5, Tryz.ntmps5
  go_upto_region 1 with fail
  generalize w.alloc (.cells (cfC c nilS nilS) 35) = w0 at P0 b0 m0 ⊢
  obtain ⟨g0, hg⟩ : ∃ g, w.heap.size = g := ⟨_, rfl⟩
  rw [hg] at P0 ⊢
  have HB := Lib.hid b0
  clear hg b0
  go_wp2_with ((with_reducible apply at_load_row 35); (case hx => exact rfl); (case hg => exact P0); (case hu => exact Tryz.underlying35); (case hd => rfl); (case hi => kernel_rfl))
  refine (gateNew_any w0 c HU.out).mono ?_
  rintro e w1 ⟨⟨g, rfl, G1⟩, q1⟩
  have HB1 := Lib.hid (HB.out.trans (q1.mono HB.out.size))
  have m1 := m0.next q1
  clear P0 HB q1 m0
  go_wp2_with fail
  have hpa := sparse_any w1 m1
  rw [HT.out] at hpa
  refine hpa.mono ?_
  rintro e w2 ⟨H, A, k, hH, rfl, L2, q2⟩
  have HB2 := Lib.hid (HB1.out.trans (q2.mono HB1.out.size))
  have G2 := G1.next q2
  obtain ⟨b, o, rfl, hb, hcs, hk⟩ := LO.rowL L2 (by decide)
  have hrow : Row w2 w2.heap.size (some ⟨b, o, none⟩) (lnL twoL) := .inr ⟨b, o, rfl, hb, hcs⟩
  clear hpa m1 G1 HB1 q2 L2 hcs hH
  go_upto_region 8 with fail
  have q3 : Below w2.heap.size w2 (w2.alloc (.cells #[ptr g, .int .u32 0] 46)) := (Below.refl _ w2).alloc (Nat.le_refl _) _
  have L3 : PL (w2.alloc (.cells #[ptr g, .int .u32 0] 46)) w2.heap.size g := ⟨heap_alloc_new w2 _, G2.next q3⟩
  obtain ⟨pb, hpb⟩ : ∃ p, w2.heap.size = p := ⟨_, rfl⟩
  have HR3 := Lib.hid (hrow.below q3)
  have HB3 := Lib.hid (HB2.out.trans (q3.mono HB2.out.size))
  have hb3 : b < (w2.alloc (.cells #[ptr g, .int .u32 0] 46)).heap.size := Nat.lt_of_lt_of_le hb q3.size
  rw [hpb] at L3 ⊢
  generalize w2.alloc (.cells #[ptr g, .int .u32 0] 46) = w3 at L3 HR3 HB3 hb3 ⊢
  clear G2 HB2 q3 hrow hb hpb
  go_upto_region 9 with fail
  have B4 := BB.made w3
  have q4 : Below w3.heap.size w3 (w3.alloc (.cells #[.pointer none, .slice none 0 0] 50)) := (Below.refl _ w3).alloc (Nat.le_refl _) _
  obtain ⟨bb, hbb⟩ : ∃ p, w3.heap.size = p := ⟨_, rfl⟩
  have HBB := Lib.hid hbb
  rw [hbb] at B4 q4 ⊢
  generalize w3.alloc (.cells #[.pointer none, .slice none 0 0] 50) = w4 at B4 q4 ⊢
  clear hbb
  go_wp2_with fail
  go_loopw [34] (fun v wr => ∃ i : Nat, v = .int .i64 i ∧ i ≤ 2 ∧ BB bb bb (outT i) wr ∧ Below bb w3 wr) (fun v _ => 2 - (intOf v).toNat)
  case atStart => exact ⟨0, rfl, by omega, B4, q4⟩
  case round =>
    clear B4 q4
    obtain ⟨i, rfl, hi, B5, q5⟩ := hrel
    have q5' : Below w3.heap.size w3 wr := by rw [HBB.out]; exact q5
    have L5 := L3.next q5'
    have hbl : bb ≤ wr.heap.size := by have := q5.size; rw [HBB.out] at this; exact this
    have hcell : ∀ j u, (lnL twoL)[j]? = some u → wr.cell? ⟨b, o + j, none⟩ = some u := fun j u hu => (World.cell?_of_block (w := w3) (a := ⟨b, o + j, none⟩) (q5'.block b hb3)).trans (by
      rcases HR3.out with h | ⟨b', o', e, _, h⟩
      · cases h
      · injection e with e; injection e with e1 e2; subst e1 e2; exact h j u hu)
    have HB5 := Lib.hid (HB3.out.trans (q5'.mono HB3.out.size))
    rcases (show i = 0 ∨ i = 1 ∨ i = 2 by omega) with rfl | rfl | rfl
    · have hra : wr.rangeAt b (o + 0) (lnC sNow).toList := fun j v hj => by
        have hj3 : j < 3 := (List.getElem?_eq_some_iff.1 hj).1
        have := hcell (0 + j) v (by rcases (show j = 0 ∨ j = 1 ∨ j = 2 by omega) with rfl | rfl | rfl <;> exact hj)
        rwa [← Nat.add_assoc] at this
      clear hcell
      go_upto_region 12 with (first | ((with_reducible apply at_load_mid 52); (case hx => exact rfl); (case hc => exact hra); (case hu => exact Tryz.underlying52); (case hd => rfl); (case hi => kernel_rfl)) | ((with_reducible apply at_store_new 52); (case hx => exact rfl); (case hy => exact rfl); (case hg => first | rfl | simp); (case hi => kernel_rfl); (case hold => rfl); (case h1 => kernel_rfl)))
      have X6 := heap_alloc_new wr (.cells (lnC sNow) 52)
      have q6 : Below wr.heap.size wr (wr.alloc (.cells (lnC sNow) 52)) := (Below.refl _ wr).alloc (Nat.le_refl _) _
      have L6 := L5.next q6
      have B6 := B5.next q6
      have q36 := q5.trans (q6.mono hbl)
      obtain ⟨y, hy⟩ : ∃ y, wr.heap.size = y := ⟨_, rfl⟩
      rw [hy] at X6 ⊢
      generalize wr.alloc (.cells (lnC sNow) 52) = w6 at X6 L6 B6 q36 ⊢
      clear hra L5 B5 q5 q5' HB5 q6 hy
      go_wp2_with ((with_reducible apply at_load_row 52); (case hx => exact rfl); (case hg => exact X6); (case hu => exact Tryz.underlying52); (case hd => rfl); (case hi => kernel_rfl))
      refine (play_now w6 pb g L6).mono ?_
      rintro e w7 ⟨rfl, q7⟩
      have B7 := B6.next q7
      have hb6 : bb ≤ w6.heap.size := by have := q36.size; rw [HBB.out] at this; exact this
      have q37 := q36.trans (q7.mono hb6)
      have hb7 : bb ≤ w7.heap.size := by have := q37.size; rw [HBB.out] at this; exact this
      clear X6 L6 B6 q36 q7 hb6
      go_wp2_with fail
      refine (bwrite_any bb bb (outT 0) _ w7 B7 (by decide) hb7).mono ?_
      rintro e w8 ⟨rfl, B8, q8, _⟩
      have q38 := q37.trans q8
      clear B7 q37 q8 hb7
      go_wp2_with fail
      go_roundw
      case rel => exact ⟨1, rfl, by omega, B8, q38⟩
      case measure => simp [intOf]
    · have hra : wr.rangeAt b (o + 3) (lnC sAddr).toList := fun j v hj => by
        have hj3 : j < 3 := (List.getElem?_eq_some_iff.1 hj).1
        have := hcell (3 + j) v (by rcases (show j = 0 ∨ j = 1 ∨ j = 2 by omega) with rfl | rfl | rfl <;> exact hj)
        rwa [← Nat.add_assoc] at this
      clear hcell
      go_upto_region 12 with (first | ((with_reducible apply at_load_mid 52); (case hx => exact rfl); (case hc => exact hra); (case hu => exact Tryz.underlying52); (case hd => rfl); (case hi => kernel_rfl)) | ((with_reducible apply at_store_new 52); (case hx => exact rfl); (case hy => exact rfl); (case hg => first | rfl | simp); (case hi => kernel_rfl); (case hold => rfl); (case h1 => kernel_rfl)))
      have X6 := heap_alloc_new wr (.cells (lnC sAddr) 52)
      have q6 : Below wr.heap.size wr (wr.alloc (.cells (lnC sAddr) 52)) := (Below.refl _ wr).alloc (Nat.le_refl _) _
      have L6 := L5.next q6
      have B6 := B5.next q6
      have q36 := q5.trans (q6.mono hbl)
      obtain ⟨y, hy⟩ : ∃ y, wr.heap.size = y := ⟨_, rfl⟩
      rw [hy] at X6 ⊢
      generalize wr.alloc (.cells (lnC sAddr) 52) = w6 at X6 L6 B6 q36 ⊢
      clear hra L5 B5 q5 q5' HB5 q6 hy
      go_wp2_with ((with_reducible apply at_load_row 52); (case hx => exact rfl); (case hg => exact X6); (case hu => exact Tryz.underlying52); (case hd => rfl); (case hi => kernel_rfl))
      refine (play_addr w6 pb g L6).mono ?_
      rintro e w7 ⟨rfl, q7⟩
      have B7 := B6.next q7
      have hb6 : bb ≤ w6.heap.size := by have := q36.size; rw [HBB.out] at this; exact this
      have q37 := q36.trans (q7.mono hb6)
      have hb7 : bb ≤ w7.heap.size := by have := q37.size; rw [HBB.out] at this; exact this
      clear X6 L6 B6 q36 q7 hb6
      go_wp2_with fail
      refine (bwrite_any bb bb (outT 1) _ w7 B7 (by decide) hb7).mono ?_
      rintro e w8 ⟨rfl, B8, q8, _⟩
      have q38 := q37.trans q8
      clear B7 q37 q8 hb7
      go_wp2_with fail
      go_roundw
      case rel => exact ⟨2, rfl, by omega, B8, q38⟩
      case measure => simp [intOf]
    · clear hcell
      go_wp2_with fail
      refine (bstring_any bb bb (outT 2) wr B5 hbl).mono ?_
      rintro e w7 ⟨rfl, q7⟩
      have b7 := HB3.out.trans ((q5.trans q7).mono (by have := HB3.out.size; rw [HBB.out] at this; exact this))
      clear B5 q5 q5' HB5 L5 q7
      go_wp2_with fail
      go_ret2
      exact ⟨rfl, b7⟩
set_option maxRecDepth 100000 in
set_option maxHeartbeats 4000000 in
theorem awakeT_any (w : World) (hm : mlIs w) : Calls Tryz.prog 4 #[] w (fun e w' => e = .returned (.bool true) ∧ Below w.heap.size w w') := by
  have e0 : (⟨#[110, 111, 119, 10, 97, 100, 100, 114, 101, 115, 115, 10]⟩ : ByteArray) = str tRun := rfl
  go_enter Tryz.func4, Tryz.ntmps4
  go_wp2_with fail
  refine (usual_any w).mono ?_
  rintro e w1 ⟨rfl, q1⟩
  have HR := Lib.hid (run_any w1 (hm.next q1) usC usI)
  clear hm
  go_wp2_with fail
  refine HR.out.mono ?_
  rintro e w2 ⟨rfl, q2⟩
  have b2 := q1.trans (q2.mono q1.size)
  clear HR q1 q2
  go_wp2_with fail
  go_ret
  exact ⟨rfl, b2⟩
set_option maxRecDepth 100000 in
set_option maxHeartbeats 4000000 in
theorem topNames_any (w : World) (hm : mlIs w) : Calls Tryz.prog 3 #[] w (TruePost w) := by
  go_enter Tryz.func3, Tryz.ntmps3
  go_wp2_with fail
  refine (awakeT_any w hm).mono ?_
  rintro e w1 ⟨rfl, q1⟩
  go_wp2_with fail
  go_ret
  exact ⟨rfl, q1⟩
end Go.Proofs.YtcdacfnfiplidaaGreatDoor
