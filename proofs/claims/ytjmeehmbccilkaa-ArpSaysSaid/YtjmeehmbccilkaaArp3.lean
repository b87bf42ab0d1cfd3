/-
  Contract of arp.Get.
-/
import Derived.Test.YtjmeehmbccilkaaArp2
import Derived.Test.YtjmeehmbccilkaaBig
namespace Go.Proofs.Ytjmeehmbccilkaa
open Go.RowKit

def PkPost (w : World) (r : Pk × Int) (e : Ending) (w' : World) : Prop := e = .returned (.tuple #[pkV r.1, .int .i64 r.2]) ∧ Below w.heap.size w w'

theorem pkC_zero : pkC Pk.zero = #[.int .i64 0, .int .u8 0, .int .u8 0, .int .u8 0, .int .u8 0, .int .u8 0, .int .u8 0, .int .u8 0, .int .u8 0, .int .u8 0, .int .u8 0, .int .u8 0, .int .u8 0, .int .u8 0, .int .u8 0, .int .u8 0, .int .u8 0, .int .u8 0, .int .u8 0, .int .u8 0, .int .u8 0] := by simp [Pk.zero, zero6]

set_option maxRecDepth 100000 in
set_option maxHeartbeats 1000000 in
theorem aget_short (w : World) (A : Option Addr) (n c : Nat) (l : List UInt8) (h : BS w w.heap.size A n c l) (hn : n < 28) :
    Calls Try.prog 26 #[.slice A n c] w (PkPost w (getPk l)) := by
  rw [getPk_short l (by have := h.1; omega)]
  clear h
  go_enter Try.func26, Try.ntmps26
  go_wp2_with ((with_reducible apply at_store_new 48); (case hx => exact rfl); (case hy => exact rfl); (case hg => first | rfl | simp); (case hi => kernel_rfl); (case hold => rfl); (case h1 => kernel_rfl))
  refine bodyPost_cell_tmp w.heap.size _ _ _ rfl rfl (heap_alloc_at rfl) Try.underlying48 rfl (by kernel_rfl) rfl ?_
  refine ⟨?_, by go_grown⟩
  show _ = Ending.returned (.tuple #[.agg (pkC Pk.zero), .int .i64 3])
  rw [pkC_zero]
  rfl

theorem rd_at (l : List UInt8) (i k : Nat) (h : i + k ≤ l.length) : rdTake (l.drop i) k = (l.drop i).take k ∧ rdDrop (l.drop i) k = l.drop (i + k) ∧ rdSh (l.drop i) k false = false := by
  have h' : (0 : Int) ≤ (k : Int) ∧ (k : Int) ≤ (l.drop i).length := by rw [List.length_drop]; omega
  refine ⟨if_pos h', ?_, if_pos h'⟩
  rw [rdDrop, if_pos h', List.drop_drop]
  rfl

abbrev pz (k : Int) : Array Value := #[.int .i64 k, .int .u8 0, .int .u8 0, .int .u8 0, .int .u8 0, .int .u8 0, .int .u8 0, .int .u8 0, .int .u8 0, .int .u8 0, .int .u8 0, .int .u8 0, .int .u8 0, .int .u8 0, .int .u8 0, .int .u8 0, .int .u8 0, .int .u8 0, .int .u8 0, .int .u8 0, .int .u8 0]

abbrev p1 (k : Int) (m : Mac6) : Array Value := #[.int .i64 k, .int .u8 (m.a.toNat : Int), .int .u8 (m.b.toNat : Int), .int .u8 (m.c.toNat : Int), .int .u8 (m.d.toNat : Int), .int .u8 (m.e.toNat : Int), .int .u8 (m.f.toNat : Int), .int .u8 0, .int .u8 0, .int .u8 0, .int .u8 0, .int .u8 0, .int .u8 0, .int .u8 0, .int .u8 0, .int .u8 0, .int .u8 0, .int .u8 0, .int .u8 0, .int .u8 0, .int .u8 0]
abbrev p2 (k : Int) (m : Mac6) (a : Ad4) : Array Value := #[.int .i64 k, .int .u8 (m.a.toNat : Int), .int .u8 (m.b.toNat : Int), .int .u8 (m.c.toNat : Int), .int .u8 (m.d.toNat : Int), .int .u8 (m.e.toNat : Int), .int .u8 (m.f.toNat : Int), .int .u8 (a.a.toNat : Int), .int .u8 (a.b.toNat : Int), .int .u8 (a.c.toNat : Int), .int .u8 (a.d.toNat : Int), .int .u8 0, .int .u8 0, .int .u8 0, .int .u8 0, .int .u8 0, .int .u8 0, .int .u8 0, .int .u8 0, .int .u8 0, .int .u8 0]
abbrev p3 (k : Int) (m : Mac6) (a : Ad4) (t : Mac6) : Array Value := #[.int .i64 k, .int .u8 (m.a.toNat : Int), .int .u8 (m.b.toNat : Int), .int .u8 (m.c.toNat : Int), .int .u8 (m.d.toNat : Int), .int .u8 (m.e.toNat : Int), .int .u8 (m.f.toNat : Int), .int .u8 (a.a.toNat : Int), .int .u8 (a.b.toNat : Int), .int .u8 (a.c.toNat : Int), .int .u8 (a.d.toNat : Int), .int .u8 (t.a.toNat : Int), .int .u8 (t.b.toNat : Int), .int .u8 (t.c.toNat : Int), .int .u8 (t.d.toNat : Int), .int .u8 (t.e.toNat : Int), .int .u8 (t.f.toNat : Int), .int .u8 0, .int .u8 0, .int .u8 0, .int .u8 0]

set_option maxRecDepth 100000 in
set_option maxHeartbeats 2000000 in
theorem aget_form (w : World) (A : Option Addr) (n c : Nat) (l : List UInt8) (h : BS w w.heap.size A n c l) (hn : 28 ≤ n) (hmx : n ≤ 1099511627776)
    (hf : ¬ (l.take 6 = head6 ∧ (beN ((l.drop 6).take 2) = 1 ∨ beN ((l.drop 6).take 2) = 2))) :
    Calls Try.prog 26 #[.slice A n c] w (PkPost w (getPk l)) := by
  have e1 : getPk l = (Pk.zero, 4) := by rw [getPk, if_neg (by have := h.1; omega), if_neg hf]
  rw [e1]
  have hl : 28 ≤ l.length := by have := h.1; omega
  have hlm : l.length ≤ 1099511627776 := by have := h.1; omega
  have T1 := Lib.hid (rd_at l 0 6 (by omega))
  have T2 := Lib.hid (rd_at l 6 2 (by omega))
  obtain ⟨k, hk⟩ : ∃ k, beN ((l.drop 6).take 2) = k := ⟨_, rfl⟩
  obtain ⟨q, hq⟩ : ∃ q, (l.take 6 == head6) = q := ⟨_, rfl⟩
  have b : q = true → ((k : Int) != 1) = true ∧ ((k : Int) != 2) = true := by
    intro he
    have he := LawfulBEq.eq_of_beq (hq.trans he)
    refine ⟨bne_iff_ne.2 fun e => hf ⟨he, .inl (by omega)⟩, bne_iff_ne.2 fun e => hf ⟨he, .inr (by omega)⟩⟩
  have HK := Lib.hid hk
  have HQ := Lib.hid hq
  have HB := Lib.hid b
  clear b hk hq e1 hf
  go_enter Try.func26, Try.ntmps26
  go_wp2_with fail
  refine (read_any _ A n c l ((h.alloc (Nat.le_refl _) _).more (by simp)) (by omega)).mono ?_
  rintro e w1 ⟨g, rfl, hg, hr1, hb1⟩
  have X1 : w1.heap[w.heap.size]? = some (.cells (pz 0) 48 (0, 0)) := below_at hb1 (heap_alloc_at rfl) (by simp)
  have z1 := hb1.size
  simp at z1 hg
  have hgw : w.heap.size < g := by omega
  have q1 : Below w.heap.size w w1 := ((Below.refl _ w).alloc (Nat.le_refl _) _).trans (hb1.mono (by simp))
  have X := Lib.hid X1
  clear X1 hb1
  go_wp2_with fail
  refine (bytes_any w1 g 6 l false hr1 (by omega)).mono ?_
  rintro e w2 ⟨A2, n2, c2, rfl, ho2, hr2, hg2⟩
  rw [show rdTake l 6 = l.take 6 from T1.out.1] at ho2
  rw [show rdDrop l 6 = l.drop 6 from T1.out.2.1, show rdSh l 6 false = false from T1.out.2.2] at hr2
  have hgl := hr1.lt
  have z2 := hg2.size
  have X2 := Lib.hid (grown_at hg2 X.out (by omega))
  have q2 : Below w.heap.size w w2 := below_grown q1 hg2 (by omega) (by omega)
  clear hg2 X
  go_wp2_with fail
  refine (ru16_any w2 g _ false hr2 (by rw [List.length_drop]; omega)).mono ?_
  rintro e w3 ⟨rfl, hr3, hg3⟩
  rw [show beN (rdTake (l.drop 6) 2) = k from (congrArg beN T2.out.1).trans HK.out]
  have z3 := hg3.size
  have X3 := Lib.hid (grown_at hg3 X2.out (by omega))
  have q3 : Below w.heap.size w w3 := below_grown q2 hg3 (by omega) (by omega)
  have ho3 : OB w3 w1.heap.size A2 n2 c2 _ := ho2.grown hg3 (by omega)
  clear hg3 X2
  go_wp2_with ((with_reducible apply at_store_new 48); (case hx => exact rfl); (case hy => exact rfl); (case hg => first | rfl | simp); (case hi => kernel_rfl); (case hold => rfl); (case h1 => kernel_rfl))
  refine (head_any _).mono ?_
  rintro e w4 ⟨A4, n4, c4, rfl, ho4, hb4⟩
  have z4 := hb4.size
  simp at z4
  have X4 := Lib.hid (below_at hb4 (heap_alloc_of X3.out) (by simp; omega))
  have P4 := Lib.hid (below_at hb4 (heap_alloc_at rfl) (by simp))
  have q4 : Below w.heap.size w w4 := (q3.alloc (by omega) _).trans (hb4.mono (by simp; omega))
  have hbs : BS w4 w4.heap.size A2 n2 c2 (l.take 6) := (((ho3.bs).alloc (Nat.le_refl _) _).below (hb4.mono (by simp))).more (by omega)
  clear hb4 X3
  go_wp2_with fail
  refine (eq8_any w4 A2 n2 c2 (l.take 6) A4 n4 c4 head6 hbs ho4.bs).mono ?_
  rintro e w5 ⟨rfl, hb5⟩
  rw [HQ.out]
  have z5 := hb5.size
  have X5 := below_at hb5 X4.out (by omega)
  have P5 := below_at hb5 P4.out (by omega)
  obtain ⟨k5, f5⟩ := cells_of P5
  have q5 := q4.trans (hb5.mono (by omega))
  cases q
  case' true => obtain ⟨b1, b2⟩ := HB.out rfl
  all_goals
    go_upto_region 7 with fail
    go_wp2_with ((with_reducible apply at_store_part 48); (case hx => exact rfl); (case hy => exact rfl); (case hg => exact X5); (case hle => simp); (case hi => kernel_rfl); (case h1 => kernel_rfl); (intro w6 g6 X6; replace X6 := Lib.hid X6))
    have X6' : w6.heap[w.heap.size]? = some (.cells (pz 0) 48 (0, 0)) := X6.out
    refine bodyPost_cell_tmp w.heap.size _ _ _ rfl rfl X6' Try.underlying48 rfl (by kernel_rfl) rfl ?_
    refine ⟨?_, below_grown q5 g6 (by omega) (by omega)⟩
    show _ = Ending.returned (.tuple #[.agg (pkC Pk.zero), .int .i64 4])
    rw [pkC_zero]
    rfl

set_option maxRecDepth 100000 in
set_option maxHeartbeats 4000000 in
theorem aget_ok (w : World) (A : Option Addr) (n c : Nat) (l : List UInt8) (h : BS w w.heap.size A n c l) (hn : 28 ≤ n) (hmx : n ≤ 1099511627776)
    (hf : (l.take 6 = head6 ∧ (beN ((l.drop 6).take 2) = 1 ∨ beN ((l.drop 6).take 2) = 2))) :
    Calls Try.prog 26 #[.slice A n c] w (PkPost w (getPk l)) := by
  have e1 : getPk l = (pkOf l, 0) := by rw [getPk, if_neg (by have := h.1; omega), if_pos hf]
  rw [e1, pkOf]
  have hl : 28 ≤ l.length := by have := h.1; omega
  have hlm : l.length ≤ 1099511627776 := by have := h.1; omega
  obtain ⟨hf1, hf2⟩ := hf
  have T1 := Lib.hid (rd_at l 0 6 (by omega))
  have T2 := Lib.hid (rd_at l 6 2 (by omega))
  have T3 := Lib.hid (rd_at l 8 6 (by omega))
  have T4 := Lib.hid (rd_at l 14 4 (by omega))
  have T5 := Lib.hid (rd_at l 18 6 (by omega))
  have T6 := Lib.hid (rd_at l 24 4 (by omega))
  have HF := Lib.hid hf1
  obtain ⟨k, hk⟩ : ∃ k, beN ((l.drop 6).take 2) = k := ⟨_, rfl⟩
  obtain ⟨m1, hm1⟩ : ∃ m, macOf ((l.drop 8).take 6) = m := ⟨_, rfl⟩
  obtain ⟨a1, ha1⟩ : ∃ m, adOf ((l.drop 14).take 4) = m := ⟨_, rfl⟩
  obtain ⟨m2, hm2⟩ : ∃ m, macOf ((l.drop 18).take 6) = m := ⟨_, rfl⟩
  obtain ⟨a2, ha2⟩ : ∃ m, adOf ((l.drop 24).take 4) = m := ⟨_, rfl⟩
  rw [hk] at hf2
  rw [hk, hm1, ha1, hm2, ha2]
  have HK := Lib.hid hk
  have M1 := Lib.hid hm1
  have A1 := Lib.hid ha1
  have M2 := Lib.hid hm2
  have A2' := Lib.hid ha2
  clear hk hf1 e1 hm1 ha1 hm2 ha2
  rcases hf2 with rfl | rfl
  all_goals
    go_enter Try.func26, Try.ntmps26
    go_wp2_with fail
    refine (read_any _ A n c l ((h.alloc (Nat.le_refl _) _).more (by simp)) (by omega)).mono ?_
    rintro e w1 ⟨g, rfl, hg, hr1, hb1⟩
    have X1 : w1.heap[w.heap.size]? = some (.cells (pz 0) 48 (0, 0)) := below_at hb1 (heap_alloc_at rfl) (by simp)
    have z1 := hb1.size
    simp at z1 hg
    have hgw : w.heap.size < g := by omega
    have q1 : Below w.heap.size w w1 := ((Below.refl _ w).alloc (Nat.le_refl _) _).trans (hb1.mono (by simp))
    have X := Lib.hid X1
    clear X1 hb1
    go_wp2_with fail
    refine (bytes_any w1 g 6 l false hr1 (by omega)).mono ?_
    rintro e w2 ⟨A2, n2, c2, rfl, ho2, hr2, hg2⟩
    rw [show rdTake l 6 = l.take 6 from T1.out.1, HF.out] at ho2
    rw [show rdDrop l 6 = l.drop 6 from T1.out.2.1, show rdSh l 6 false = false from T1.out.2.2] at hr2
    have hgl := hr1.lt
    have z2 := hg2.size
    have X2 := Lib.hid (grown_at hg2 X.out (by omega))
    have q2 : Below w.heap.size w w2 := below_grown q1 hg2 (by omega) (by omega)
    clear hg2 X
    go_wp2_with fail
    refine (ru16_any w2 g _ false hr2 (by rw [List.length_drop]; omega)).mono ?_
    rintro e w3 ⟨rfl, hr3, hg3⟩
    rw [show beN (rdTake (l.drop 6) 2) = _ from (congrArg beN T2.out.1).trans HK.out]
    rw [show rdDrop (l.drop 6) 2 = l.drop 8 from T2.out.2.1, show rdSh (l.drop 6) 2 false = false from T2.out.2.2] at hr3
    have z3 := hg3.size
    have X3 := Lib.hid (grown_at hg3 X2.out (by omega))
    have q3 : Below w.heap.size w w3 := below_grown q2 hg3 (by omega) (by omega)
    have ho3 : OB w3 w1.heap.size A2 n2 c2 _ := ho2.grown hg3 (by omega)
    clear hg3 X2
    go_wp2_with ((with_reducible apply at_store_new 48); (case hx => exact rfl); (case hy => exact rfl); (case hg => first | rfl | simp); (case hi => kernel_rfl); (case hold => rfl); (case h1 => kernel_rfl))
    refine (head_any _).mono ?_
    rintro e w4 ⟨A4, n4, c4, rfl, ho4, hb4⟩
    have z4 := hb4.size
    simp at z4
    have hg4 := hr3.lt
    have X4 := Lib.hid (below_at hb4 (heap_alloc_of X3.out) (by simp; omega))
    have P4 := Lib.hid (below_at hb4 (heap_alloc_at rfl) (by simp))
    have q4 : Below w.heap.size w w4 := (q3.alloc (by omega) _).trans (hb4.mono (by simp; omega))
    have hbs : BS w4 w4.heap.size A2 n2 c2 head6 := (((ho3.bs).alloc (Nat.le_refl _) _).below (hb4.mono (by simp))).more (by omega)
    have hr4 : Rd w4 g (l.drop 8) false := (hr3.alloc _).below hb4 (by simp; omega)
    clear hb4 X3
    go_wp2_with fail
    refine (eq8_any w4 A2 n2 c2 head6 A4 n4 c4 head6 hbs ho4.bs).mono ?_
    rintro e w5 ⟨rfl, hb5⟩
    have z5 := hb5.size
    have X5 := Lib.hid (below_at hb5 X4.out (by omega))
    have P5 := below_at hb5 P4.out (by omega)
    obtain ⟨k5, f5⟩ := cells_of P5
    have P5' := Lib.hid P5
    have q5 := q4.trans (hb5.mono (by omega))
    have hr5 : Rd w5 g (l.drop 8) false := hr4.below hb5 (by omega)
    rw [show (head6 == head6) = true from rfl]
    clear X4 P4 P5 hb5
    go_wp2_with fail
    refine (rmac_any w5 g _ false hr5 (by rw [List.length_drop]; omega)).mono ?_
    rintro e w6 ⟨rfl, hr6, hg6⟩
    rw [show macOf (rdTake (l.drop 8) 6) = m1 from (congrArg macOf T3.out.1).trans M1.out]
    rw [show rdDrop (l.drop 8) 6 = l.drop 14 from T3.out.2.1, show rdSh (l.drop 8) 6 false = false from T3.out.2.2] at hr6
    have P6 := Lib.hid (grown_at hg6 P5'.out (by omega))
    have X6 := Lib.hid (grown_at hg6 X5.out (by omega))
    have z6 := hg6.size
    have q6 := below_grown q5 hg6 (by omega) (by omega)
    clear k5 f5 hg6 P5' X5
    go_wp2_with ((with_reducible apply at_store_part 24); (case hx => exact rfl); (case hy => exact rfl); (case hg => exact P6.out); (case hle => simp); (case hi => kernel_rfl); (case h1 => kernel_rfl); (intro w7 g7 P7; replace P7 := Lib.hid P7))
    have z7 := g7.size
    have P7' : w7.heap[w3.heap.size]? = some (.cells (p1 _ m1) 48 (0, 0)) := P7.out
    have X7 := Lib.hid (grown_at g7 X6.out (by omega))
    have q7 := below_grown q6 g7 (by omega) (by omega)
    have hr7 := hr6.grown g7 (by omega)
    replace P7' := Lib.hid P7'
    clear g7 X6 P6 hr6
    refine (raddr_any w7 g _ false hr7 (by rw [List.length_drop]; omega)).mono ?_
    rintro e w8 ⟨rfl, hr8, hg8⟩
    rw [show adOf (rdTake (l.drop 14) 4) = a1 from (congrArg adOf T4.out.1).trans A1.out]
    rw [show rdDrop (l.drop 14) 4 = l.drop 18 from T4.out.2.1, show rdSh (l.drop 14) 4 false = false from T4.out.2.2] at hr8
    have P8 := Lib.hid (grown_at hg8 P7'.out (by omega))
    have X8 := Lib.hid (grown_at hg8 X7.out (by omega))
    have z8 := hg8.size
    have q8 := below_grown q7 hg8 (by omega) (by omega)
    clear hg8 P7 P7' X7 hr7
    go_wp2_with ((with_reducible apply at_store_part 46); (case hx => exact rfl); (case hy => exact rfl); (case hg => exact P8.out); (case hle => simp); (case hi => kernel_rfl); (case h1 => kernel_rfl); (intro w9 g9 P9; replace P9 := Lib.hid P9))
    have z9 := g9.size
    have P9' : w9.heap[w3.heap.size]? = some (.cells (p2 _ m1 a1) 48 (0, 0)) := P9.out
    have X9 := Lib.hid (grown_at g9 X8.out (by omega))
    have q9 := below_grown q8 g9 (by omega) (by omega)
    have hr9 := hr8.grown g9 (by omega)
    replace P9' := Lib.hid P9'
    clear g9 X8 P8 hr8
    refine (rmac_any w9 g _ false hr9 (by rw [List.length_drop]; omega)).mono ?_
    rintro e w10 ⟨rfl, hr10, hg10⟩
    rw [show macOf (rdTake (l.drop 18) 6) = m2 from (congrArg macOf T5.out.1).trans M2.out]
    rw [show rdDrop (l.drop 18) 6 = l.drop 24 from T5.out.2.1, show rdSh (l.drop 18) 6 false = false from T5.out.2.2] at hr10
    have P10 := Lib.hid (grown_at hg10 P9'.out (by omega))
    have X10 := Lib.hid (grown_at hg10 X9.out (by omega))
    have z10 := hg10.size
    have q10 := below_grown q9 hg10 (by omega) (by omega)
    clear hg10 P9 P9' X9 hr9
    go_wp2_with ((with_reducible apply at_store_part 24); (case hx => exact rfl); (case hy => exact rfl); (case hg => exact P10.out); (case hle => simp); (case hi => kernel_rfl); (case h1 => kernel_rfl); (intro w11 g11 P11; replace P11 := Lib.hid P11))
    have z11 := g11.size
    have P11' : w11.heap[w3.heap.size]? = some (.cells (p3 _ m1 a1 m2) 48 (0, 0)) := P11.out
    have X11 := Lib.hid (grown_at g11 X10.out (by omega))
    have q11 := below_grown q10 g11 (by omega) (by omega)
    have hr11 := hr10.grown g11 (by omega)
    replace P11' := Lib.hid P11'
    clear g11 X10 P10 hr10
    refine (raddr_any w11 g _ false hr11 (by rw [List.length_drop]; omega)).mono ?_
    rintro e w12 ⟨rfl, hr12, hg12⟩
    rw [show adOf (rdTake (l.drop 24) 4) = a2 from (congrArg adOf T6.out.1).trans A2'.out]
    have P12 := Lib.hid (grown_at hg12 P11'.out (by omega))
    have X12 := Lib.hid (grown_at hg12 X11.out (by omega))
    have z12 := hg12.size
    have q12 := below_grown q11 hg12 (by omega) (by omega)
    clear hg12 P11 P11' X11 hr11
    go_upto_region 12 with ((with_reducible apply at_store_part 46); (case hx => exact rfl); (case hy => exact rfl); (case hg => exact P12.out); (case hle => simp); (case hi => kernel_rfl); (case h1 => kernel_rfl); (intro w13 g13 P13; replace P13 := Lib.hid P13))
    have z13 := g13.size
    have X13 := Lib.hid (grown_at g13 X12.out (by omega))
    have q13 := below_grown q12 g13 (by omega) (by omega)
    have P13' : w13.heap[w3.heap.size]? = some (.cells (pkC ⟨_, m1, a1, m2, a2⟩) 48 (0, 0)) := P13.out
    clear g13 X12 P12 P13
    go_wp2_with (first | ((with_reducible apply at_load_row 48); (case hx => exact rfl); (case hg => exact P13'); (case hu => exact Try.underlying48); (case hd => rfl); (case hi => kernel_rfl)) | ((with_reducible apply at_store_part 48); (case hx => exact rfl); (case hy => exact rfl); (case hg => exact X13.out); (case hle => simp); (case hi => kernel_rfl); (case h1 => kernel_rfl); (intro w14 g14 X14; replace X14 := Lib.hid X14)))
    have X14' : w14.heap[w.heap.size]? = some (.cells (pkC ⟨_, m1, a1, m2, a2⟩) 48 (0, 0)) := X14.out
    refine bodyPost_cell_tmp w.heap.size _ _ _ rfl rfl X14' Try.underlying48 rfl (by kernel_rfl) rfl ?_
    exact ⟨rfl, below_grown q13 g14 (by omega) (by omega)⟩
theorem aget_any (w : World) (A : Option Addr) (n c : Nat) (l : List UInt8) (h : BS w w.heap.size A n c l) (hmx : n ≤ 1099511627776) :
    Calls Try.prog 26 #[.slice A n c] w (PkPost w (getPk l)) := by
  by_cases hn : n < 28
  · exact aget_short w A n c l h hn
  · by_cases hf : (l.take 6 = head6 ∧ (beN ((l.drop 6).take 2) = 1 ∨ beN ((l.drop 6).take 2) = 2))
    · exact aget_ok w A n c l h (by omega) hmx hf
    · exact aget_form w A n c l h (by omega) hmx hf
end Go.Proofs.Ytjmeehmbccilkaa
