/-
  The walk of the statement DhcpKnown.
-/
import Derived.Test.YtidohmcneoldcaaDh13
import Derived.Test.YtidohmcneoldcaaMake
namespace Go.Proofs.Ytidohmcneoldcaa
open Go.RowKit

def hdO (op : Int) : Hd := ⟨op, 0, 0, 0, 0, ad0, ad0, ad0, ad0, mac0⟩
theorem msC_hdO (op : Int) (A : Option Addr) (n c : Nat) : #[.int .i64 op, .int .i64 0, .int .u32 0, .int .i64 0, .int .i64 0, .int .u8 0, .int .u8 0, .int .u8 0, .int .u8 0, .int .u8 0, .int .u8 0, .int .u8 0, .int .u8 0,
  .int .u8 0, .int .u8 0, .int .u8 0, .int .u8 0, .int .u8 0, .int .u8 0, .int .u8 0, .int .u8 0, .int .u8 0, .int .u8 0, .int .u8 0, .int .u8 0, .int .u8 0, .int .u8 0, .slice A n c] = msC (hdO op) A n c := by
  simp [hdO, ad0, mac0]

theorem getM_z239 : getM (List.replicate 239 0) = ((Hd.zero, []), 3) := by rw [getM, if_pos (by rw [List.length_replicate]; omega)]
theorem getM_z300 : getM (List.replicate 300 0) = ((Hd.zero, []), 4) := by
  rw [getM, if_neg (by rw [List.length_replicate]; omega), if_neg]
  rintro ⟨h, _⟩
  rw [List.getD_eq_getElem?_getD, List.getElem?_replicate, if_pos (by omega)] at h
  revert h
  decide

set_option maxRecDepth 100000 in
set_option maxHeartbeats 4000000 in
theorem dhcpKnown_walk (w : World) : Calls Try.prog 7 #[] w (TruePost w) := by
  have HG1 := Lib.hid getM_z239
  have HG2 := Lib.hid getM_z300
  have HP1 := Lib.hid (show putM (hdO 1) [] = ([], 1) by rw [putM, if_neg (fun h => h.2 (by decide))])
  have HP3 := Lib.hid (show putM (hdO 3) [(53, [1])] = ([], 1) by rw [putM, if_neg (fun h => absurd h.1.1 (by decide))])
  have HT9 := Lib.hid (show typeO [(53, [9])] = 0 by decide)
  obtain ⟨z1, hz1⟩ : ∃ z, (bv (List.replicate 239 0)).toArray = z := ⟨_, rfl⟩
  obtain ⟨z2, hz2⟩ : ∃ z, (bv (List.replicate 300 0)).toArray = z := ⟨_, rfl⟩
  have k1 := run_make8 239 (by omega)
  have k2 := run_make8 300 (by omega)
  have s1 := fun (w : World) (g : Nat) (hg : w.heap.size = g) => bs_zeros_at w g 239 hg (by omega)
  have s2 := fun (w : World) (g : Nat) (hg : w.heap.size = g) => bs_zeros_at w g 300 hg (by omega)
  rw [hz1] at k1 s1
  rw [hz2] at k2 s2
  have S1 := Lib.hid s1
  have S2 := Lib.hid s2
  clear hz1 hz2 s1 s2
  change ∀ w, (Instr.makeSlice 24 (.int .i64 239) (.int .i64 239)).run Try.prog w = _ at k1
  change ∀ w, (Instr.makeSlice 24 (.int .i64 300) (.int .i64 300)).run Try.prog w = _ at k2
  obtain ⟨y1, hy1⟩ : ∃ z, List.replicate 239 (0 : UInt8) = z := ⟨_, rfl⟩
  obtain ⟨y2, hy2⟩ : ∃ z, List.replicate 300 (0 : UInt8) = z := ⟨_, rfl⟩
  rw [hy1] at S1 HG1
  rw [hy2] at S2 HG2
  clear hy1 hy2
  go_enter Try.func7, Try.ntmps7
  go_wp2_with fail
  refine (awake13_any w).mono ?_
  rintro e w1 ⟨rfl, q1⟩
  go_wp2_with fail
  refine (dget_any _ _ 239 239 y1 (S1.out w1 _ rfl) (by omega)).mono ?_
  rw [HG1.out]
  rintro e w2 ⟨A2, n2, c2, l2, rfl, _, _, hb2⟩
  have q2 := (q1.alloc q1.size (.cells z1 5)).trans (hb2.mono (by have := q1.size; simp; omega))
  clear hb2
  go_wp2_with ((with_reducible apply at_store_new 56); (case hx => exact rfl); (case hy => exact rfl); (case hg => first | rfl | simp); (case hi => kernel_rfl); (case hold => rfl); (case h1 => kernel_rfl))
  have q3 := q2.alloc q2.size (.cells (msC Hd.zero A2 n2 c2) 56)
  have z3 : (w2.alloc (.cells (msC Hd.zero A2 n2 c2) 56)).heap.size = w2.heap.size + 1 := by simp
  generalize w2.alloc (.cells (msC Hd.zero A2 n2 c2) 56) = w3 at q3 z3 ⊢
  refine (dget_any _ _ 300 300 y2 (S2.out w3 (w2.heap.size + 1) z3) (by omega)).mono ?_
  clear z3
  rw [HG2.out]
  rintro e w4 ⟨A4, n4, c4, l4, rfl, _, _, hb4⟩
  have q4 := (q3.alloc q3.size (.cells z2 5)).trans (hb4.mono (by have := q3.size; simp; omega))
  clear hb4 q2 q3
  go_wp2_with ((with_reducible apply at_store_new 56); (case hx => exact rfl); (case hy => exact rfl); (case hg => first | rfl | simp); (case hi => kernel_rfl); (case hold => rfl); (case h1 => kernel_rfl))
  have q5 := q4.alloc q4.size (.cells (msC Hd.zero A4 n4 c4) 56)
  generalize w4.alloc (.cells (msC Hd.zero A4 n4 c4) 56) = w5 at q5 ⊢
  rw [msC_hdO]
  refine (dput_any w5 (hdO 1) none 0 0 [] (OS.nil_ _ _) (by simp) (by simp) (by decide) (by decide)).mono ?_
  rw [show putM (hdO 1) (obs []) = ([], 1) from HP1.out]
  rintro e w6 ⟨A6, n6, c6, rfl, _, hb6⟩
  have q6 := q5.trans (hb6.mono q5.size)
  clear hb6 q4 q5
  go_wp2_with fail
  rw [msC_hdO]
  have b7 := BS.block [1] (heap_alloc_new w6 (.cells #[.int .u8 1] 5)) rfl (by simp [maxLen])
  refine (dput_any _ (hdO 3) _ 1 1 [⟨53, some ⟨w6.heap.size, 0, none⟩, 1, 1, [1]⟩] (OS.single (g := w6.heap.size + 1) (t := 26) _ (heap_alloc_at (by simp)) (b7.step1 _)) (by simp) (by simp) (by decide) (by decide)).mono ?_
  rw [show putM (hdO 3) (obs [⟨53, some ⟨w6.heap.size, 0, none⟩, 1, 1, [1]⟩]) = ([], 1) from HP3.out]
  rintro e w7 ⟨A7, n7, c7, rfl, _, hb7⟩
  have q7 := ((q6.alloc q6.size (.cells #[.int .u8 1] 5)).alloc (by have := q6.size; simp; omega) (.cells #[.int .i64 53, .slice (some ⟨w6.heap.size, 0, none⟩) 1 1] 26)).trans (hb7.mono (by have := q6.size; simp; omega))
  clear hb7 q6 b7
  go_wp2_with fail
  rw [msC_hdO]
  have b8 := BS.block [9] (heap_alloc_new w7 (.cells #[.int .u8 9] 5)) rfl (by simp [maxLen])
  refine (type_any _ (hdO 0) _ 1 1 [⟨53, some ⟨w7.heap.size, 0, none⟩, 1, 1, [9]⟩] (OS.single (g := w7.heap.size + 1) (t := 26) _ (heap_alloc_at (by simp)) (b8.step1 _)) (by simp)).mono ?_
  rw [show typeO (obs [⟨53, some ⟨w7.heap.size, 0, none⟩, 1, 1, [9]⟩]) = 0 from HT9.out]
  rintro e w8 ⟨rfl, hb8⟩
  have q8 := ((q7.alloc q7.size (.cells #[.int .u8 9] 5)).alloc (by have := q7.size; simp; omega) (.cells #[.int .i64 53, .slice (some ⟨w7.heap.size, 0, none⟩) 1 1] 26)).trans (hb8.mono (by have := q7.size; simp; omega))
  go_wp2_with fail
  go_ret
  exact ⟨rfl, q8⟩
end Go.Proofs.Ytidohmcneoldcaa
