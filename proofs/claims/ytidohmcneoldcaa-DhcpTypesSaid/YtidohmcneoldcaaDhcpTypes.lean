/-
  The walk of the statement DhcpTypes.
-/
import Derived.Test.YtidohmcneoldcaaDh13
namespace Go.Proofs.Ytidohmcneoldcaa
open Go.RowKit

def hd2 : Hd := ⟨2, 0, 0, 0, 0, ad0, ad0, ad0, ad0, mac0⟩
theorem msC_hd2 (A : Option Addr) (n c : Nat) : #[.int .i64 2, .int .i64 0, .int .u32 0, .int .i64 0, .int .i64 0, .int .u8 0, .int .u8 0, .int .u8 0, .int .u8 0, .int .u8 0, .int .u8 0, .int .u8 0, .int .u8 0,
  .int .u8 0, .int .u8 0, .int .u8 0, .int .u8 0, .int .u8 0, .int .u8 0, .int .u8 0, .int .u8 0, .int .u8 0, .int .u8 0, .int .u8 0, .int .u8 0, .int .u8 0, .int .u8 0, .slice A n c] = msC hd2 A n c := by
  simp [hd2, ad0, mac0]
theorem typeO_53 (l : List UInt8) : typeO [(53, l)] = typeB l := by simp [typeO, fdO]
theorem putO_53 (x : UInt8) : putO [(53, [x])] = ([53, 1, x, 255], 0) := by
  simp [putO, goodO, allO, piece, pieceF, byteN]
theorem put_53_no (l : List UInt8) (h : typeB l = 0) : putM hd2 [(53, l)] = ([], 1) := by rw [putM, if_neg (fun hh => hh.2 (by rw [typeO_53, h]))]
theorem put_53_yes (x : UInt8) (h : 1 ≤ x.toNat ∧ x.toNat ≤ 8) : ∃ pb, putM hd2 [(53, [x])] = (pb, 0) ∧ pb.length = 300 := by
  have hl := put_len hd2 [(53, [x])] [53, 1, x, 255] (by decide) (by rw [typeO_53, typeB_one, if_pos h]; omega) (putO_53 x) (by simp)
  exact ⟨(putM hd2 [(53, [x])]).1, by rw [← hl.1], hl.2⟩

set_option maxRecDepth 100000 in
set_option maxHeartbeats 1000000 in
theorem dhcpTypes_big (w : World) (A : Option Addr) (n c : Nat) (hbig : 20 < n) (hnm : n ≤ 9223372036854775807) :
    Calls Try.prog 10 #[.slice A n c] w (TruePost w) := by
  go_enter Try.func10, Try.ntmps10
  go_wp2_with fail
  refine (awake13_any w).mono ?_
  rintro e w1 ⟨rfl, q1⟩
  go_wp2_with fail
  go_ret
  exact ⟨rfl, q1⟩

set_option maxRecDepth 100000 in
set_option maxHeartbeats 2000000 in
theorem dhcpTypes_yes (w : World) (b o c : Nat) (x : UInt8) (h : BS w w.heap.size (some ⟨b, o, none⟩) 1 c [x]) (h1 : 1 ≤ x.toNat) (h2 : x.toNat ≤ 8) :
    Calls Try.prog 10 #[.slice (some ⟨b, o, none⟩) 1 c] w (TruePost w) := by
  obtain ⟨pb, hpb, hpl⟩ := put_53_yes x ⟨h1, h2⟩
  have HPM := Lib.hid hpb
  have HPL := Lib.hid hpl
  have HTY := Lib.hid (show typeO [(53, [x])] = (x.toNat : Int) by rw [typeO_53, typeB_one, if_pos ⟨h1, h2⟩])
  clear hpb hpl
  go_enter Try.func10, Try.ntmps10
  go_wp2_with fail
  refine (awake13_any w).mono ?_
  rintro e w1 ⟨rfl, q1⟩
  go_upto_region 7 with ((with_reducible apply at_store_new 56); (case hx => exact rfl); (case hy => exact rfl); (case hg => first | rfl | simp); (case hi => kernel_rfl); (case hold => rfl); (case h1 => kernel_rfl))
  rw [msC_hd2]
  have hb1 := ((h.below q1).more q1.size).step1 (.cells #[.int .i64 53, .slice (some ⟨b, o, none⟩) 1 c] 26)
  have ho1 := (OS.single (g := w1.heap.size) (t := 26) ⟨53, (some ⟨b, o, none⟩), 1, c, [x]⟩ (heap_alloc_at rfl) hb1).step1 (.cells (msC hd2 (some ⟨w1.heap.size, 0, none⟩) 1 1) 56)
  have q2 : Below w.heap.size w ((w1.alloc (.cells #[.int .i64 53, .slice (some ⟨b, o, none⟩) 1 c] 26)).alloc (.cells (msC hd2 (some ⟨w1.heap.size, 0, none⟩) 1 1) 56)) :=
    (q1.alloc q1.size _).alloc (by have := q1.size; simp; omega) _
  have P2 : ((w1.alloc (.cells #[.int .i64 53, .slice (some ⟨b, o, none⟩) 1 c] 26)).alloc (.cells (msC hd2 (some ⟨w1.heap.size, 0, none⟩) 1 1) 56)).heap[w1.heap.size + 1]? = some (.cells (msC hd2 (some ⟨w1.heap.size, 0, none⟩) 1 1) 56 (0, 0)) := heap_alloc_at (by simp)
  generalize (w1.alloc (.cells #[.int .i64 53, .slice (some ⟨b, o, none⟩) 1 c] 26)).alloc (.cells (msC hd2 (some ⟨w1.heap.size, 0, none⟩) 1 1) 56) = w2 at ho1 q2 P2 ⊢
  have c0 : w2.cell? ⟨b, o, none⟩ = some (.int .u8 (x.toNat : Int)) := by
    obtain ⟨b', o', e, _, hc⟩ := ((h.below q2).byte (k := 0) (by omega))
    injection e with e
    injection e with e1 e2
    subst e1 e2
    exact hc 0 (by simp)
  have d1 : decide (1 ≤ (x.toNat : Int)) = true := decide_eq_true (by omega)
  have d2 : decide ((x.toNat : Int) ≤ 8) = true := decide_eq_true (by omega)
  have d3 : decide (0 < (x.toNat : Int)) = true := decide_eq_true (by omega)
  clear hb1
  go_wp2_with ((with_reducible apply at_load_row 56); (case hx => exact rfl); (case hg => exact P2); (case hu => exact Try.underlying56); (case hd => rfl); (case hi => kernel_rfl))
  refine (dput_any w2 hd2 _ 1 1 _ ho1 (by simp) (by simp) (by decide) (by decide)).mono ?_
  rw [show putM hd2 (obs [⟨53, (some ⟨b, o, none⟩), 1, c, [x]⟩]) = (pb, 0) from HPM.out]
  rintro e w3 ⟨A3, n3, c3, rfl, ob3, hb3⟩
  have q3 := q2.trans (hb3.mono q2.size)
  have P3 := below_at hb3 P2 (heap_lt P2)
  have ho3 := (ho1.below hb3).more hb3.size
  have hn3 : n3 = 300 := ob3.1.trans HPL.out
  subst hn3
  clear P2 ho1 hb3 ob3
  go_wp2_with ((with_reducible apply at_load_row 56); (case hx => exact rfl); (case hg => exact P3); (case hu => exact Try.underlying56); (case hd => rfl); (case hi => kernel_rfl))
  refine (type_any w3 hd2 _ 1 1 _ ho3 (by simp)).mono ?_
  rw [show typeO (obs [⟨53, (some ⟨b, o, none⟩), 1, c, [x]⟩]) = (x.toNat : Int) from HTY.out]
  rintro e w4 ⟨rfl, hb4⟩
  go_wp2_with fail
  go_ret
  exact ⟨rfl, q3.trans (hb4.mono q3.size)⟩

set_option maxRecDepth 100000 in
set_option maxHeartbeats 2000000 in
theorem dhcpTypes_no1 (w : World) (b o c : Nat) (x : UInt8) (h : BS w w.heap.size (some ⟨b, o, none⟩) 1 c [x]) (h1 : ¬ (1 ≤ x.toNat ∧ x.toNat ≤ 8)) :
    Calls Try.prog 10 #[.slice (some ⟨b, o, none⟩) 1 c] w (TruePost w) := by
  have HPM := Lib.hid (put_53_no [x] (by rw [typeB_one, if_neg h1]))
  have HTY := Lib.hid (show typeO [(53, [x])] = 0 by rw [typeO_53, typeB_one, if_neg h1])
  go_enter Try.func10, Try.ntmps10
  go_wp2_with fail
  refine (awake13_any w).mono ?_
  rintro e w1 ⟨rfl, q1⟩
  go_upto_region 7 with ((with_reducible apply at_store_new 56); (case hx => exact rfl); (case hy => exact rfl); (case hg => first | rfl | simp); (case hi => kernel_rfl); (case hold => rfl); (case h1 => kernel_rfl))
  rw [msC_hd2]
  have hb1 := ((h.below q1).more q1.size).step1 (.cells #[.int .i64 53, .slice (some ⟨b, o, none⟩) 1 c] 26)
  have ho1 := (OS.single (g := w1.heap.size) (t := 26) ⟨53, (some ⟨b, o, none⟩), 1, c, [x]⟩ (heap_alloc_at rfl) hb1).step1 (.cells (msC hd2 (some ⟨w1.heap.size, 0, none⟩) 1 1) 56)
  have q2 : Below w.heap.size w ((w1.alloc (.cells #[.int .i64 53, .slice (some ⟨b, o, none⟩) 1 c] 26)).alloc (.cells (msC hd2 (some ⟨w1.heap.size, 0, none⟩) 1 1) 56)) :=
    (q1.alloc q1.size _).alloc (by have := q1.size; simp; omega) _
  have P2 : ((w1.alloc (.cells #[.int .i64 53, .slice (some ⟨b, o, none⟩) 1 c] 26)).alloc (.cells (msC hd2 (some ⟨w1.heap.size, 0, none⟩) 1 1) 56)).heap[w1.heap.size + 1]? = some (.cells (msC hd2 (some ⟨w1.heap.size, 0, none⟩) 1 1) 56 (0, 0)) := heap_alloc_at (by simp)
  generalize (w1.alloc (.cells #[.int .i64 53, .slice (some ⟨b, o, none⟩) 1 c] 26)).alloc (.cells (msC hd2 (some ⟨w1.heap.size, 0, none⟩) 1 1) 56) = w2 at ho1 q2 P2 ⊢
  have c0 : w2.cell? ⟨b, o, none⟩ = some (.int .u8 (x.toNat : Int)) := by
    obtain ⟨b', o', e, _, hc⟩ := ((h.below q2).byte (k := 0) (by omega))
    injection e with e
    injection e with e1 e2
    subst e1 e2
    exact hc 0 (by simp)
  have hx8 := x.toNat_lt
  by_cases h2 : 1 ≤ x.toNat
  case' pos =>
    have d1 : decide (1 ≤ (x.toNat : Int)) = true := decide_eq_true (by omega)
    have d2 : decide ((x.toNat : Int) ≤ 8) = false := decide_eq_false (by omega)
  case' neg =>
    have d1 : decide (1 ≤ (x.toNat : Int)) = false := decide_eq_false (by omega)
  all_goals
    clear hb1
    go_wp2_with ((with_reducible apply at_load_row 56); (case hx => exact rfl); (case hg => exact P2); (case hu => exact Try.underlying56); (case hd => rfl); (case hi => kernel_rfl))
    refine (dput_any w2 hd2 _ 1 1 _ ho1 (by simp) (by simp) (by decide) (by decide)).mono ?_
    rw [show putM hd2 (obs [⟨53, (some ⟨b, o, none⟩), 1, c, [x]⟩]) = ([], 1) from HPM.out]
    rintro e w3 ⟨A3, n3, c3, rfl, ob3, hb3⟩
    have q3 := q2.trans (hb3.mono q2.size)
    have P3 := below_at hb3 P2 (heap_lt P2)
    have ho3 := (ho1.below hb3).more hb3.size
    have hn3 : n3 = 0 := ob3.1
    subst hn3
    clear P2 ho1 hb3 ob3
    go_wp2_with ((with_reducible apply at_load_row 56); (case hx => exact rfl); (case hg => exact P3); (case hu => exact Try.underlying56); (case hd => rfl); (case hi => kernel_rfl))
    refine (type_any w3 hd2 _ 1 1 _ ho3 (by simp)).mono ?_
    rw [show typeO (obs [⟨53, (some ⟨b, o, none⟩), 1, c, [x]⟩]) = 0 from HTY.out]
    rintro e w4 ⟨rfl, hb4⟩
    go_wp2_with fail
    go_ret
    exact ⟨rfl, q3.trans (hb4.mono q3.size)⟩

set_option maxRecDepth 100000 in
set_option maxHeartbeats 2000000 in
theorem dhcpTypes_no (w : World) (A : Option Addr) (n c : Nat) (l : List UInt8) (h : BS w w.heap.size A n c l) (hsm : n ≤ 20) (h1 : ¬ n = 1) :
    Calls Try.prog 10 #[.slice A n c] w (TruePost w) := by
  have HPM := Lib.hid (put_53_no l (typeB_len l (by have := h.1; omega)))
  have HTY := Lib.hid (show typeO [(53, l)] = 0 by rw [typeO_53, typeB_len l (by have := h.1; omega)])
  have HNL := Lib.hid h.1
  have d1 : ((n : Int) == 1) = false := by rw [beq_eq_false_iff_ne]; omega
  go_enter Try.func10, Try.ntmps10
  go_wp2_with fail
  refine (awake13_any w).mono ?_
  rintro e w1 ⟨rfl, q1⟩
  go_upto_region 7 with ((with_reducible apply at_store_new 56); (case hx => exact rfl); (case hy => exact rfl); (case hg => first | rfl | simp); (case hi => kernel_rfl); (case hold => rfl); (case h1 => kernel_rfl))
  rw [msC_hd2]
  have hb1 := ((h.below q1).more q1.size).step1 (.cells #[.int .i64 53, .slice A n c] 26)
  have ho1 := (OS.single (g := w1.heap.size) (t := 26) ⟨53, A, n, c, l⟩ (heap_alloc_at rfl) hb1).step1 (.cells (msC hd2 (some ⟨w1.heap.size, 0, none⟩) 1 1) 56)
  have q2 : Below w.heap.size w ((w1.alloc (.cells #[.int .i64 53, .slice A n c] 26)).alloc (.cells (msC hd2 (some ⟨w1.heap.size, 0, none⟩) 1 1) 56)) :=
    (q1.alloc q1.size _).alloc (by have := q1.size; simp; omega) _
  have P2 : ((w1.alloc (.cells #[.int .i64 53, .slice A n c] 26)).alloc (.cells (msC hd2 (some ⟨w1.heap.size, 0, none⟩) 1 1) 56)).heap[w1.heap.size + 1]? = some (.cells (msC hd2 (some ⟨w1.heap.size, 0, none⟩) 1 1) 56 (0, 0)) := heap_alloc_at (by simp)
  generalize (w1.alloc (.cells #[.int .i64 53, .slice A n c] 26)).alloc (.cells (msC hd2 (some ⟨w1.heap.size, 0, none⟩) 1 1) 56) = w2 at ho1 q2 P2 ⊢
  clear hb1
  go_wp2_with ((with_reducible apply at_load_row 56); (case hx => exact rfl); (case hg => exact P2); (case hu => exact Try.underlying56); (case hd => rfl); (case hi => kernel_rfl))
  refine (dput_any w2 hd2 _ 1 1 _ ho1 (by simp) (by simp; have := HNL.out; omega) (by decide) (by decide)).mono ?_
  rw [show putM hd2 (obs [⟨53, A, n, c, l⟩]) = ([], 1) from HPM.out]
  rintro e w3 ⟨A3, n3, c3, rfl, ob3, hb3⟩
  have q3 := q2.trans (hb3.mono q2.size)
  have P3 := below_at hb3 P2 (heap_lt P2)
  have ho3 := (ho1.below hb3).more hb3.size
  have hn3 : n3 = 0 := ob3.1
  subst hn3
  clear P2 ho1 hb3 ob3
  go_wp2_with ((with_reducible apply at_load_row 56); (case hx => exact rfl); (case hg => exact P3); (case hu => exact Try.underlying56); (case hd => rfl); (case hi => kernel_rfl))
  refine (type_any w3 hd2 _ 1 1 _ ho3 (by simp; have := HNL.out; omega)).mono ?_
  rw [show typeO (obs [⟨53, A, n, c, l⟩]) = 0 from HTY.out]
  rintro e w4 ⟨rfl, hb4⟩
  go_wp2_with fail
  go_ret
  exact ⟨rfl, q3.trans (hb4.mono q3.size)⟩

theorem dhcpTypes_walk (w : World) (A : Option Addr) (n c : Nat) (l : List UInt8) (h : BS w w.heap.size A n c l) :
    Calls Try.prog 10 #[.slice A n c] w (TruePost w) := by
  by_cases hbig : 20 < n
  · exact dhcpTypes_big w A n c hbig (by have h1 := h.2.1; have h2 := h.2.2.1; unfold maxLen at h2; omega)
  · by_cases h1 : n = 1
    · subst h1
      obtain ⟨x, rfl⟩ := one_of l h.1.symm
      obtain ⟨b, o, rfl, _, _⟩ := h.byte (k := 0) (by omega)
      by_cases hx : 1 ≤ x.toNat ∧ x.toNat ≤ 8
      · exact dhcpTypes_yes w b o c x h hx.1 hx.2
      · exact dhcpTypes_no1 w b o c x h hx
    · exact dhcpTypes_no w A n c l h (by omega) h1
end Go.Proofs.Ytidohmcneoldcaa
