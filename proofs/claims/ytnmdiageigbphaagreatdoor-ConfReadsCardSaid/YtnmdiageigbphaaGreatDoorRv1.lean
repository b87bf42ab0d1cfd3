/-
  The reference's value: a line's value into a configuration (but for fixed and open).
-/
import Derived.Test.YtnmdiageigbphaaGreatDoorRe4
import Derived.Test.YtnmdiageigbphaaGreatDoorRp2
namespace Go.Proofs.YtnmdiageigbphaaGreatDoor
open Go.RowKit

theorem rparse_xb (v : List UInt8) (hl : v.length ≤ 20000) : ∃ x b, x = (parseV v).1 ∧ b = decide ((parseV v).2 = 0) ∧ ∀ w, Calls Tryz.prog 66 #[.string (str v)] w (fun e w' => e = .returned (.tuple #[adV x, .bool b]) ∧ Below w.heap.size w w') :=
  ⟨_, _, rfl, rfl, fun w => rParse_any w v (by omega)⟩
theorem rmac_xb (v : List UInt8) (hl : v.length ≤ 20000) : ∃ x b, x = (parseMV v).1 ∧ b = decide ((parseMV v).2 = 0) ∧ ∀ w, Calls Tryz.prog 68 #[.string (str v)] w (fun e w' => e = .returned (.tuple #[macV x, .bool b]) ∧ Below w.heap.size w w') :=
  ⟨_, _, rfl, rfl, fun w => rParseMac_any w v (by omega)⟩
set_option maxRecDepth 100000 in
set_option maxHeartbeats 2000000 in
theorem rNumber_any (w : World) (s : List UInt8) (hl : s.length ≤ 20000) : Calls Tryz.prog 67 #[.string (str s)] w (fun e w' => e = .returned (.int .i64 (refG s mostN)) ∧ w' = w) := by
  have h : Calls Tryz.prog 98 #[.string (str s), .int .i64 999999999] w (RnP w (refG s mostN)) := rnumberG_any w s mostN (by omega) (by decide)
  go_enter Tryz.func67, Tryz.ntmps67
  go_wp2_with fail
  refine h.mono ?_
  rintro e w1 ⟨rfl, rfl⟩
  go_wp2_with fail
  go_ret
  exact ⟨rfl, rfl⟩
theorem rnum_k (v : List UInt8) (hl : v.length ≤ 20000) : ∃ k, k = refG v mostN ∧ ∀ w, Calls Tryz.prog 67 #[.string (str v)] w (fun e w' => e = .returned (.int .i64 k) ∧ w' = w) :=
  ⟨_, rfl, fun w => rNumber_any w v hl⟩
/-- Behind a value: its answer, the configuration's block, all else as it was. -/
def RvP (w : World) (g : Nat) (c : Cf) (vf vo : Value) (b : Bool) (e : Ending) (w' : World) : Prop :=
  e = .returned (.bool b) ∧ w'.heap[g]? = some (.cells (cfC c vf vo) 40 (0, 0)) ∧ Ext (fun j => j = g) w w'
set_option maxRecDepth 100000 in
set_option maxHeartbeats 4000000 in
theorem rval_first (w : World) (g : Nat) (c : Cf) (vf vo : Value) (P : w.heap[g]? = some (.cells (cfC c vf vo) 40 (0, 0))) (v : List UInt8) (hl : v.length ≤ 20000) :
    Calls Tryz.prog 24 #[.pointer (some ⟨g, 0, none⟩), .string (str nFirst), .string (str v)] w (RvP w g { c with fst := (parseV v).1 } vf vo (decide ((parseV v).2 = 0))) := by
  have x0 : ((str nFirst).toList == [108, 97, 110]) = false := by rw [toList_str]; rfl
  have x1 : ((str nFirst).toList == [108, 97, 110, 109, 97, 99]) = false := by rw [toList_str]; rfl
  have x2 : ((str nFirst).toList == [119, 97, 110, 109, 97, 99]) = false := by rw [toList_str]; rfl
  have x3 : ((str nFirst).toList == [102, 105, 114, 115, 116]) = true := by rw [toList_str]; rfl
  obtain ⟨x, b, hx, hb, hp⟩ := rparse_xb v hl
  rw [← hx, ← hb]
  have hgl := heap_lt P
  clear hx hb
  go_enter Tryz.func24, Tryz.ntmps24
  go_wp2_with fail
  refine (hp w).mono ?_
  rintro e w1 ⟨rfl, q1⟩
  have P1 := below_at q1 P hgl
  have e1 := Ext.below_all (fun j => j = g) q1
  clear P q1 hp hgl
  go_upto_region 23 with ((with_reducible apply at_store_new 24); (case hx => exact rfl); (case hy => exact rfl); (case hg => first | rfl | simp); (case hi => kernel_rfl); (case hold => rfl); (case h1 => kernel_rfl))
  have q2 : Below w1.heap.size w1 (w1.alloc (.cells (adC x) 24)) := (Below.refl _ w1).alloc (Nat.le_refl _) _
  have P2 := below_at q2 P1 (heap_lt P1)
  have X2 := heap_alloc_new w1 (.cells (adC x) 24)
  have e2 := e1.trans (Ext.below_all _ q2)
  generalize w1.alloc (.cells (adC x) 24) = w2 at P2 X2 e2 ⊢
  clear q2 P1 e1
  go_wp2_with (first | ((with_reducible apply at_load_row 24); (case hx => exact rfl); (case hg => exact X2); (case hu => exact Tryz.underlying24); (case hd => rfl); (case hi => kernel_rfl)) | ((with_reducible apply at_store_part 24); (case hx => exact rfl); (case hy => exact rfl); (case hg => exact P2); (case hle => simp); (case hi => kernel_rfl); (case h1 => kernel_rfl); (intro w3 g3 P3; replace P3 := Lib.hid P3)))
  go_ret
  exact ⟨rfl, P3.out, e2.trans (Ext.of_grown g3 fun j h => by injection h with h; exact h.symm)⟩
set_option maxRecDepth 100000 in
set_option maxHeartbeats 4000000 in
theorem rval_last (w : World) (g : Nat) (c : Cf) (vf vo : Value) (P : w.heap[g]? = some (.cells (cfC c vf vo) 40 (0, 0))) (v : List UInt8) (hl : v.length ≤ 20000) :
    Calls Tryz.prog 24 #[.pointer (some ⟨g, 0, none⟩), .string (str nLast), .string (str v)] w (RvP w g { c with lst := (parseV v).1 } vf vo (decide ((parseV v).2 = 0))) := by
  have x0 : ((str nLast).toList == [108, 97, 110]) = false := by rw [toList_str]; rfl
  have x1 : ((str nLast).toList == [108, 97, 110, 109, 97, 99]) = false := by rw [toList_str]; rfl
  have x2 : ((str nLast).toList == [119, 97, 110, 109, 97, 99]) = false := by rw [toList_str]; rfl
  have x3 : ((str nLast).toList == [102, 105, 114, 115, 116]) = false := by rw [toList_str]; rfl
  have x4 : ((str nLast).toList == [108, 97, 115, 116]) = true := by rw [toList_str]; rfl
  obtain ⟨x, b, hx, hb, hp⟩ := rparse_xb v hl
  rw [← hx, ← hb]
  have hgl := heap_lt P
  clear hx hb
  go_enter Tryz.func24, Tryz.ntmps24
  go_wp2_with fail
  refine (hp w).mono ?_
  rintro e w1 ⟨rfl, q1⟩
  have P1 := below_at q1 P hgl
  have e1 := Ext.below_all (fun j => j = g) q1
  clear P q1 hp hgl
  go_upto_region 23 with ((with_reducible apply at_store_new 24); (case hx => exact rfl); (case hy => exact rfl); (case hg => first | rfl | simp); (case hi => kernel_rfl); (case hold => rfl); (case h1 => kernel_rfl))
  have q2 : Below w1.heap.size w1 (w1.alloc (.cells (adC x) 24)) := (Below.refl _ w1).alloc (Nat.le_refl _) _
  have P2 := below_at q2 P1 (heap_lt P1)
  have X2 := heap_alloc_new w1 (.cells (adC x) 24)
  have e2 := e1.trans (Ext.below_all _ q2)
  generalize w1.alloc (.cells (adC x) 24) = w2 at P2 X2 e2 ⊢
  clear q2 P1 e1
  go_wp2_with (first | ((with_reducible apply at_load_row 24); (case hx => exact rfl); (case hg => exact X2); (case hu => exact Tryz.underlying24); (case hd => rfl); (case hi => kernel_rfl)) | ((with_reducible apply at_store_part 24); (case hx => exact rfl); (case hy => exact rfl); (case hg => exact P2); (case hle => simp); (case hi => kernel_rfl); (case h1 => kernel_rfl); (intro w3 g3 P3; replace P3 := Lib.hid P3)))
  go_ret
  exact ⟨rfl, P3.out, e2.trans (Ext.of_grown g3 fun j h => by injection h with h; exact h.symm)⟩
set_option maxRecDepth 100000 in
set_option maxHeartbeats 4000000 in
theorem rval_dns (w : World) (g : Nat) (c : Cf) (vf vo : Value) (P : w.heap[g]? = some (.cells (cfC c vf vo) 40 (0, 0))) (v : List UInt8) (hl : v.length ≤ 20000) :
    Calls Tryz.prog 24 #[.pointer (some ⟨g, 0, none⟩), .string (str nDns), .string (str v)] w (RvP w g { c with dns := (parseV v).1 } vf vo (decide ((parseV v).2 = 0))) := by
  have x0 : ((str nDns).toList == [108, 97, 110]) = false := by rw [toList_str]; rfl
  have x1 : ((str nDns).toList == [108, 97, 110, 109, 97, 99]) = false := by rw [toList_str]; rfl
  have x2 : ((str nDns).toList == [119, 97, 110, 109, 97, 99]) = false := by rw [toList_str]; rfl
  have x3 : ((str nDns).toList == [102, 105, 114, 115, 116]) = false := by rw [toList_str]; rfl
  have x4 : ((str nDns).toList == [108, 97, 115, 116]) = false := by rw [toList_str]; rfl
  have x5 : ((str nDns).toList == [100, 110, 115]) = true := by rw [toList_str]; rfl
  obtain ⟨x, b, hx, hb, hp⟩ := rparse_xb v hl
  rw [← hx, ← hb]
  have hgl := heap_lt P
  clear hx hb
  go_enter Tryz.func24, Tryz.ntmps24
  go_wp2_with fail
  refine (hp w).mono ?_
  rintro e w1 ⟨rfl, q1⟩
  have P1 := below_at q1 P hgl
  have e1 := Ext.below_all (fun j => j = g) q1
  clear P q1 hp hgl
  go_upto_region 23 with ((with_reducible apply at_store_new 24); (case hx => exact rfl); (case hy => exact rfl); (case hg => first | rfl | simp); (case hi => kernel_rfl); (case hold => rfl); (case h1 => kernel_rfl))
  have q2 : Below w1.heap.size w1 (w1.alloc (.cells (adC x) 24)) := (Below.refl _ w1).alloc (Nat.le_refl _) _
  have P2 := below_at q2 P1 (heap_lt P1)
  have X2 := heap_alloc_new w1 (.cells (adC x) 24)
  have e2 := e1.trans (Ext.below_all _ q2)
  generalize w1.alloc (.cells (adC x) 24) = w2 at P2 X2 e2 ⊢
  clear q2 P1 e1
  go_wp2_with (first | ((with_reducible apply at_load_row 24); (case hx => exact rfl); (case hg => exact X2); (case hu => exact Tryz.underlying24); (case hd => rfl); (case hi => kernel_rfl)) | ((with_reducible apply at_store_part 24); (case hx => exact rfl); (case hy => exact rfl); (case hg => exact P2); (case hle => simp); (case hi => kernel_rfl); (case h1 => kernel_rfl); (intro w3 g3 P3; replace P3 := Lib.hid P3)))
  go_ret
  exact ⟨rfl, P3.out, e2.trans (Ext.of_grown g3 fun j h => by injection h with h; exact h.symm)⟩
set_option maxRecDepth 100000 in
set_option maxHeartbeats 4000000 in
theorem rval_lanmac (w : World) (g : Nat) (c : Cf) (vf vo : Value) (P : w.heap[g]? = some (.cells (cfC c vf vo) 40 (0, 0))) (v : List UInt8) (hl : v.length ≤ 20000) :
    Calls Tryz.prog 24 #[.pointer (some ⟨g, 0, none⟩), .string (str nLanmac), .string (str v)] w (RvP w g { c with lm := (parseMV v).1 } vf vo (decide ((parseMV v).2 = 0))) := by
  have x0 : ((str nLanmac).toList == [108, 97, 110]) = false := by rw [toList_str]; rfl
  have x1 : ((str nLanmac).toList == [108, 97, 110, 109, 97, 99]) = true := by rw [toList_str]; rfl
  obtain ⟨x, b, hx, hb, hp⟩ := rmac_xb v hl
  rw [← hx, ← hb]
  have hgl := heap_lt P
  clear hx hb
  go_enter Tryz.func24, Tryz.ntmps24
  go_wp2_with fail
  refine (hp w).mono ?_
  rintro e w1 ⟨rfl, q1⟩
  have P1 := below_at q1 P hgl
  have e1 := Ext.below_all (fun j => j = g) q1
  clear P q1 hp hgl
  go_upto_region 15 with ((with_reducible apply at_store_new 28); (case hx => exact rfl); (case hy => exact rfl); (case hg => first | rfl | simp); (case hi => kernel_rfl); (case hold => rfl); (case h1 => kernel_rfl))
  have q2 : Below w1.heap.size w1 (w1.alloc (.cells (maC x) 28)) := (Below.refl _ w1).alloc (Nat.le_refl _) _
  have P2 := below_at q2 P1 (heap_lt P1)
  have X2 := heap_alloc_new w1 (.cells (maC x) 28)
  have e2 := e1.trans (Ext.below_all _ q2)
  generalize w1.alloc (.cells (maC x) 28) = w2 at P2 X2 e2 ⊢
  clear q2 P1 e1
  go_wp2_with (first | ((with_reducible apply at_load_row 28); (case hx => exact rfl); (case hg => exact X2); (case hu => exact Tryz.underlying28); (case hd => rfl); (case hi => kernel_rfl)) | ((with_reducible apply at_store_part 28); (case hx => exact rfl); (case hy => exact rfl); (case hg => exact P2); (case hle => simp); (case hi => kernel_rfl); (case h1 => kernel_rfl); (intro w3 g3 P3; replace P3 := Lib.hid P3)))
  go_ret
  exact ⟨rfl, P3.out, e2.trans (Ext.of_grown g3 fun j h => by injection h with h; exact h.symm)⟩
set_option maxRecDepth 100000 in
set_option maxHeartbeats 4000000 in
theorem rval_wanmac (w : World) (g : Nat) (c : Cf) (vf vo : Value) (P : w.heap[g]? = some (.cells (cfC c vf vo) 40 (0, 0))) (v : List UInt8) (hl : v.length ≤ 20000) :
    Calls Tryz.prog 24 #[.pointer (some ⟨g, 0, none⟩), .string (str nWanmac), .string (str v)] w (RvP w g { c with wm := (parseMV v).1 } vf vo (decide ((parseMV v).2 = 0))) := by
  have x0 : ((str nWanmac).toList == [108, 97, 110]) = false := by rw [toList_str]; rfl
  have x1 : ((str nWanmac).toList == [108, 97, 110, 109, 97, 99]) = false := by rw [toList_str]; rfl
  have x2 : ((str nWanmac).toList == [119, 97, 110, 109, 97, 99]) = true := by rw [toList_str]; rfl
  obtain ⟨x, b, hx, hb, hp⟩ := rmac_xb v hl
  rw [← hx, ← hb]
  have hgl := heap_lt P
  clear hx hb
  go_enter Tryz.func24, Tryz.ntmps24
  go_wp2_with fail
  refine (hp w).mono ?_
  rintro e w1 ⟨rfl, q1⟩
  have P1 := below_at q1 P hgl
  have e1 := Ext.below_all (fun j => j = g) q1
  clear P q1 hp hgl
  go_upto_region 15 with ((with_reducible apply at_store_new 28); (case hx => exact rfl); (case hy => exact rfl); (case hg => first | rfl | simp); (case hi => kernel_rfl); (case hold => rfl); (case h1 => kernel_rfl))
  have q2 : Below w1.heap.size w1 (w1.alloc (.cells (maC x) 28)) := (Below.refl _ w1).alloc (Nat.le_refl _) _
  have P2 := below_at q2 P1 (heap_lt P1)
  have X2 := heap_alloc_new w1 (.cells (maC x) 28)
  have e2 := e1.trans (Ext.below_all _ q2)
  generalize w1.alloc (.cells (maC x) 28) = w2 at P2 X2 e2 ⊢
  clear q2 P1 e1
  go_wp2_with (first | ((with_reducible apply at_load_row 28); (case hx => exact rfl); (case hg => exact X2); (case hu => exact Tryz.underlying28); (case hd => rfl); (case hi => kernel_rfl)) | ((with_reducible apply at_store_part 28); (case hx => exact rfl); (case hy => exact rfl); (case hg => exact P2); (case hle => simp); (case hi => kernel_rfl); (case h1 => kernel_rfl); (intro w3 g3 P3; replace P3 := Lib.hid P3)))
  go_ret
  exact ⟨rfl, P3.out, e2.trans (Ext.of_grown g3 fun j h => by injection h with h; exact h.symm)⟩
set_option maxRecDepth 100000 in
set_option maxHeartbeats 4000000 in
theorem rval_time (w : World) (g : Nat) (c : Cf) (vf vo : Value) (P : w.heap[g]? = some (.cells (cfC c vf vo) 40 (0, 0))) (v : List UInt8) (hl : v.length ≤ 20000) :
    Calls Tryz.prog 24 #[.pointer (some ⟨g, 0, none⟩), .string (str nTime), .string (str v)] w (RvP w g { c with time := refG v mostN } vf vo (decide (0 ≤ refG v mostN))) := by
  have x0 : ((str nTime).toList == [108, 97, 110]) = false := by rw [toList_str]; rfl
  have x1 : ((str nTime).toList == [108, 97, 110, 109, 97, 99]) = false := by rw [toList_str]; rfl
  have x2 : ((str nTime).toList == [119, 97, 110, 109, 97, 99]) = false := by rw [toList_str]; rfl
  have x3 : ((str nTime).toList == [102, 105, 114, 115, 116]) = false := by rw [toList_str]; rfl
  have x4 : ((str nTime).toList == [108, 97, 115, 116]) = false := by rw [toList_str]; rfl
  have x5 : ((str nTime).toList == [100, 110, 115]) = false := by rw [toList_str]; rfl
  have x6 : ((str nTime).toList == [102, 105, 120, 101, 100]) = false := by rw [toList_str]; rfl
  have x7 : ((str nTime).toList == [111, 112, 101, 110]) = false := by rw [toList_str]; rfl
  obtain ⟨k, hk, hp⟩ := rnum_k v hl
  have h10 : ∀ w, Calls Tryz.prog 65 #[.string (str nTime)] w (fun e w' => e = .returned (.int .i64 0) ∧ Below w.heap.size w w') := fun w => rnum10_any w nTime
  rw [← hk]
  have hgl := heap_lt P
  clear hk
  go_enter Tryz.func24, Tryz.ntmps24
  go_wp2_with fail
  refine (hp w).mono ?_
  rintro e w1 ⟨rfl, rfl⟩
  clear hp
  go_wp2_with fail
  refine (h10 w1).mono ?_
  rintro e w2 ⟨rfl, q2⟩
  have P2 := below_at q2 P hgl
  have e2 := Ext.below_all (fun j => j = g) q2
  clear P q2 h10 hgl
  go_wp2_with ((with_reducible apply at_store_one 3); (case hx => exact rfl); (case hy => exact rfl); (case hg => exact P2); (case hle => simp); (case hv => rfl); (case hi => kernel_rfl); (case h1 => rfl); (intro w3 g3 P3; replace P3 := Lib.hid P3))
  go_ret
  exact ⟨rfl, P3.out, e2.trans (Ext.of_grown g3 fun j h => by injection h with h; exact h.symm)⟩
set_option maxRecDepth 100000 in
set_option maxHeartbeats 4000000 in
theorem rval_udp (w : World) (g : Nat) (c : Cf) (vf vo : Value) (P : w.heap[g]? = some (.cells (cfC c vf vo) 40 (0, 0))) (v : List UInt8) (hl : v.length ≤ 20000) :
    Calls Tryz.prog 24 #[.pointer (some ⟨g, 0, none⟩), .string (str nUdp), .string (str v)] w (RvP w g { c with udp := refG v mostN } vf vo (decide (0 ≤ refG v mostN))) := by
  have x0 : ((str nUdp).toList == [108, 97, 110]) = false := by rw [toList_str]; rfl
  have x1 : ((str nUdp).toList == [108, 97, 110, 109, 97, 99]) = false := by rw [toList_str]; rfl
  have x2 : ((str nUdp).toList == [119, 97, 110, 109, 97, 99]) = false := by rw [toList_str]; rfl
  have x3 : ((str nUdp).toList == [102, 105, 114, 115, 116]) = false := by rw [toList_str]; rfl
  have x4 : ((str nUdp).toList == [108, 97, 115, 116]) = false := by rw [toList_str]; rfl
  have x5 : ((str nUdp).toList == [100, 110, 115]) = false := by rw [toList_str]; rfl
  have x6 : ((str nUdp).toList == [102, 105, 120, 101, 100]) = false := by rw [toList_str]; rfl
  have x7 : ((str nUdp).toList == [111, 112, 101, 110]) = false := by rw [toList_str]; rfl
  obtain ⟨k, hk, hp⟩ := rnum_k v hl
  have h10 : ∀ w, Calls Tryz.prog 65 #[.string (str nUdp)] w (fun e w' => e = .returned (.int .i64 1) ∧ Below w.heap.size w w') := fun w => rnum10_any w nUdp
  rw [← hk]
  have hgl := heap_lt P
  clear hk
  go_enter Tryz.func24, Tryz.ntmps24
  go_wp2_with fail
  refine (hp w).mono ?_
  rintro e w1 ⟨rfl, rfl⟩
  clear hp
  go_wp2_with fail
  refine (h10 w1).mono ?_
  rintro e w2 ⟨rfl, q2⟩
  have P2 := below_at q2 P hgl
  have e2 := Ext.below_all (fun j => j = g) q2
  clear P q2 h10 hgl
  go_wp2_with ((with_reducible apply at_store_one 3); (case hx => exact rfl); (case hy => exact rfl); (case hg => exact P2); (case hle => simp); (case hv => rfl); (case hi => kernel_rfl); (case h1 => rfl); (intro w3 g3 P3; replace P3 := Lib.hid P3))
  go_ret
  exact ⟨rfl, P3.out, e2.trans (Ext.of_grown g3 fun j h => by injection h with h; exact h.symm)⟩
set_option maxRecDepth 100000 in
set_option maxHeartbeats 4000000 in
theorem rval_tcp (w : World) (g : Nat) (c : Cf) (vf vo : Value) (P : w.heap[g]? = some (.cells (cfC c vf vo) 40 (0, 0))) (v : List UInt8) (hl : v.length ≤ 20000) :
    Calls Tryz.prog 24 #[.pointer (some ⟨g, 0, none⟩), .string (str nTcp), .string (str v)] w (RvP w g { c with tcp := refG v mostN } vf vo (decide (0 ≤ refG v mostN))) := by
  have x0 : ((str nTcp).toList == [108, 97, 110]) = false := by rw [toList_str]; rfl
  have x1 : ((str nTcp).toList == [108, 97, 110, 109, 97, 99]) = false := by rw [toList_str]; rfl
  have x2 : ((str nTcp).toList == [119, 97, 110, 109, 97, 99]) = false := by rw [toList_str]; rfl
  have x3 : ((str nTcp).toList == [102, 105, 114, 115, 116]) = false := by rw [toList_str]; rfl
  have x4 : ((str nTcp).toList == [108, 97, 115, 116]) = false := by rw [toList_str]; rfl
  have x5 : ((str nTcp).toList == [100, 110, 115]) = false := by rw [toList_str]; rfl
  have x6 : ((str nTcp).toList == [102, 105, 120, 101, 100]) = false := by rw [toList_str]; rfl
  have x7 : ((str nTcp).toList == [111, 112, 101, 110]) = false := by rw [toList_str]; rfl
  obtain ⟨k, hk, hp⟩ := rnum_k v hl
  have h10 : ∀ w, Calls Tryz.prog 65 #[.string (str nTcp)] w (fun e w' => e = .returned (.int .i64 2) ∧ Below w.heap.size w w') := fun w => rnum10_any w nTcp
  rw [← hk]
  have hgl := heap_lt P
  clear hk
  go_enter Tryz.func24, Tryz.ntmps24
  go_wp2_with fail
  refine (hp w).mono ?_
  rintro e w1 ⟨rfl, rfl⟩
  clear hp
  go_wp2_with fail
  refine (h10 w1).mono ?_
  rintro e w2 ⟨rfl, q2⟩
  have P2 := below_at q2 P hgl
  have e2 := Ext.below_all (fun j => j = g) q2
  clear P q2 h10 hgl
  go_wp2_with ((with_reducible apply at_store_one 3); (case hx => exact rfl); (case hy => exact rfl); (case hg => exact P2); (case hle => simp); (case hv => rfl); (case hi => kernel_rfl); (case h1 => rfl); (intro w3 g3 P3; replace P3 := Lib.hid P3))
  go_ret
  exact ⟨rfl, P3.out, e2.trans (Ext.of_grown g3 fun j h => by injection h with h; exact h.symm)⟩
set_option maxRecDepth 100000 in
set_option maxHeartbeats 4000000 in
theorem rval_icmp (w : World) (g : Nat) (c : Cf) (vf vo : Value) (P : w.heap[g]? = some (.cells (cfC c vf vo) 40 (0, 0))) (v : List UInt8) (hl : v.length ≤ 20000) :
    Calls Tryz.prog 24 #[.pointer (some ⟨g, 0, none⟩), .string (str nIcmp), .string (str v)] w (RvP w g { c with icmp := refG v mostN } vf vo (decide (0 ≤ refG v mostN))) := by
  have x0 : ((str nIcmp).toList == [108, 97, 110]) = false := by rw [toList_str]; rfl
  have x1 : ((str nIcmp).toList == [108, 97, 110, 109, 97, 99]) = false := by rw [toList_str]; rfl
  have x2 : ((str nIcmp).toList == [119, 97, 110, 109, 97, 99]) = false := by rw [toList_str]; rfl
  have x3 : ((str nIcmp).toList == [102, 105, 114, 115, 116]) = false := by rw [toList_str]; rfl
  have x4 : ((str nIcmp).toList == [108, 97, 115, 116]) = false := by rw [toList_str]; rfl
  have x5 : ((str nIcmp).toList == [100, 110, 115]) = false := by rw [toList_str]; rfl
  have x6 : ((str nIcmp).toList == [102, 105, 120, 101, 100]) = false := by rw [toList_str]; rfl
  have x7 : ((str nIcmp).toList == [111, 112, 101, 110]) = false := by rw [toList_str]; rfl
  obtain ⟨k, hk, hp⟩ := rnum_k v hl
  have h10 : ∀ w, Calls Tryz.prog 65 #[.string (str nIcmp)] w (fun e w' => e = .returned (.int .i64 3) ∧ Below w.heap.size w w') := fun w => rnum10_any w nIcmp
  rw [← hk]
  have hgl := heap_lt P
  clear hk
  go_enter Tryz.func24, Tryz.ntmps24
  go_wp2_with fail
  refine (hp w).mono ?_
  rintro e w1 ⟨rfl, rfl⟩
  clear hp
  go_wp2_with fail
  refine (h10 w1).mono ?_
  rintro e w2 ⟨rfl, q2⟩
  have P2 := below_at q2 P hgl
  have e2 := Ext.below_all (fun j => j = g) q2
  clear P q2 h10 hgl
  go_wp2_with ((with_reducible apply at_store_one 3); (case hx => exact rfl); (case hy => exact rfl); (case hg => exact P2); (case hle => simp); (case hv => rfl); (case hi => kernel_rfl); (case h1 => rfl); (intro w3 g3 P3; replace P3 := Lib.hid P3))
  go_ret
  exact ⟨rfl, P3.out, e2.trans (Ext.of_grown g3 fun j h => by injection h with h; exact h.symm)⟩
set_option maxRecDepth 100000 in
set_option maxHeartbeats 4000000 in
theorem rval_low (w : World) (g : Nat) (c : Cf) (vf vo : Value) (P : w.heap[g]? = some (.cells (cfC c vf vo) 40 (0, 0))) (v : List UInt8) (hl : v.length ≤ 20000) :
    Calls Tryz.prog 24 #[.pointer (some ⟨g, 0, none⟩), .string (str nLow), .string (str v)] w (RvP w g { c with low := refG v mostN } vf vo (decide (0 ≤ refG v mostN))) := by
  have x0 : ((str nLow).toList == [108, 97, 110]) = false := by rw [toList_str]; rfl
  have x1 : ((str nLow).toList == [108, 97, 110, 109, 97, 99]) = false := by rw [toList_str]; rfl
  have x2 : ((str nLow).toList == [119, 97, 110, 109, 97, 99]) = false := by rw [toList_str]; rfl
  have x3 : ((str nLow).toList == [102, 105, 114, 115, 116]) = false := by rw [toList_str]; rfl
  have x4 : ((str nLow).toList == [108, 97, 115, 116]) = false := by rw [toList_str]; rfl
  have x5 : ((str nLow).toList == [100, 110, 115]) = false := by rw [toList_str]; rfl
  have x6 : ((str nLow).toList == [102, 105, 120, 101, 100]) = false := by rw [toList_str]; rfl
  have x7 : ((str nLow).toList == [111, 112, 101, 110]) = false := by rw [toList_str]; rfl
  obtain ⟨k, hk, hp⟩ := rnum_k v hl
  have h10 : ∀ w, Calls Tryz.prog 65 #[.string (str nLow)] w (fun e w' => e = .returned (.int .i64 4) ∧ Below w.heap.size w w') := fun w => rnum10_any w nLow
  rw [← hk]
  have hgl := heap_lt P
  clear hk
  go_enter Tryz.func24, Tryz.ntmps24
  go_wp2_with fail
  refine (hp w).mono ?_
  rintro e w1 ⟨rfl, rfl⟩
  clear hp
  go_wp2_with fail
  refine (h10 w1).mono ?_
  rintro e w2 ⟨rfl, q2⟩
  have P2 := below_at q2 P hgl
  have e2 := Ext.below_all (fun j => j = g) q2
  clear P q2 h10 hgl
  go_wp2_with ((with_reducible apply at_store_one 3); (case hx => exact rfl); (case hy => exact rfl); (case hg => exact P2); (case hle => simp); (case hv => rfl); (case hi => kernel_rfl); (case h1 => rfl); (intro w3 g3 P3; replace P3 := Lib.hid P3))
  go_ret
  exact ⟨rfl, P3.out, e2.trans (Ext.of_grown g3 fun j h => by injection h with h; exact h.symm)⟩
set_option maxRecDepth 100000 in
set_option maxHeartbeats 4000000 in
theorem rval_lan_no (w : World) (g : Nat) (c : Cf) (vf vo : Value) (P : w.heap[g]? = some (.cells (cfC c vf vo) 40 (0, 0))) (v : List UInt8) (hl : v.length ≤ 20000) (h2 : (cutB 47 v).length ≠ 2) :
    Calls Tryz.prog 24 #[.pointer (some ⟨g, 0, none⟩), .string (str nLan), .string (str v)] w (RvP w g c vf vo (false)) := by
  have x0 : ((str nLan).toList == [108, 97, 110]) = true := by rw [toList_str]; rfl
  have hcut : Calls Tryz.prog 64 #[.string (str v), .int .u8 47] w (PartsPost w (cutB 47 v)) := rCut_any w v 47 hl
  have hgl := heap_lt P
  go_enter Tryz.func24, Tryz.ntmps24
  go_wp2_with fail
  refine hcut.mono ?_
  rintro e w1 ⟨A, n, cc, rfl, ho, q1⟩
  have P1 := below_at q1 P hgl
  have e1 := Ext.below_all (fun j => j = g) q1
  have hn : (n : Int) ≠ 2 := by have := ho.1; omega
  clear P q1 hcut hgl ho h2
  go_wp2_with fail
  go_ret
  exact ⟨rfl, P1, e1⟩
set_option maxRecDepth 100000 in
set_option maxHeartbeats 4000000 in
theorem rval_lan (w : World) (g : Nat) (c : Cf) (vf vo : Value) (P : w.heap[g]? = some (.cells (cfC c vf vo) 40 (0, 0))) (v : List UInt8) (hl : v.length ≤ 20000) (h2 : (cutB 47 v).length = 2) :
    Calls Tryz.prog 24 #[.pointer (some ⟨g, 0, none⟩), .string (str nLan), .string (str v)] w (RvP w g { c with own := (parseV ((cutB 47 v).getD 0 [])).1, lanA := firstA (parseV ((cutB 47 v).getD 0 [])).1 (refG ((cutB 47 v).getD 1 []) mostN), lanB := refG ((cutB 47 v).getD 1 []) mostN } vf vo (decide ((parseV ((cutB 47 v).getD 0 [])).2 = 0) && decide (0 ≤ refG ((cutB 47 v).getD 1 []) mostN))) := by
  have x0 : ((str nLan).toList == [108, 97, 110]) = true := by rw [toList_str]; rfl
  have hcut : Calls Tryz.prog 64 #[.string (str v), .int .u8 47] w (PartsPost w (cutB 47 v)) := rCut_any w v 47 hl
  have hlen : ∀ i, i < 2 → ((cutB 47 v).getD i []).length ≤ 20000 := fun i hi => Nat.le_trans (cutB_mem 47 v _ (List.mem_iff_getElem?.2 ⟨i, getD_some [] (by omega)⟩)) hl
  obtain ⟨L, hL⟩ : ∃ L, cutB 47 v = L := ⟨_, rfl⟩
  rw [hL] at hcut hlen h2 ⊢
  obtain ⟨x, b, hx, hb, hp⟩ := rparse_xb (L.getD 0 []) (hlen 0 (by decide))
  obtain ⟨k, hk, hq⟩ := rnum_k (L.getD 1 []) (hlen 1 (by decide))
  rw [← hx, ← hb, ← hk]
  obtain ⟨f, hf⟩ : ∃ f, firstA x k = f := ⟨_, rfl⟩
  have hF : ∀ w, Calls Tryz.prog 27 #[.agg (netC x k)] w (fun e w' => e = .returned (adV f) ∧ Below w.heap.size w w') := fun w => by rw [← hf]; exact rfirst_any w x k
  rw [hf]
  have hgl := heap_lt P
  clear hx hb hL hk hlen hf
  go_enter Tryz.func24, Tryz.ntmps24
  go_wp2_with fail
  refine hcut.mono ?_
  rintro e w1 ⟨A, n, cc, rfl, ho, q1⟩
  have P1 := below_at q1 P hgl
  have e1 := Ext.below_all (fun j => j = g) q1
  obtain ⟨bb, o, rfl, hbl, hc0⟩ := ho.at_ (getD_some [] (show 0 < L.length by omega))
  obtain ⟨_, _, ee, _, hc1⟩ := ho.at_ (getD_some [] (show 1 < L.length by omega))
  obtain ⟨rfl, rfl⟩ : bb = _ ∧ o = _ := by injection ee with ee; injection ee with ee e2; exact ⟨ee, e2⟩
  have hn : n = 2 := by have := ho.1; omega
  subst hn
  obtain ⟨p0, hp0⟩ : ∃ p, L.getD 0 [] = p := ⟨_, rfl⟩
  obtain ⟨p1, hp1⟩ : ∃ p, L.getD 1 [] = p := ⟨_, rfl⟩
  rw [hp0, Nat.add_zero] at hc0
  rw [hp1] at hc1
  rw [hp0] at hp
  rw [hp1] at hq
  have HC1 := Lib.hid hc1
  clear P q1 hcut hgl ho h2 hp0 hp1 ee hc1
  go_wp2_with fail
  refine (hp w1).mono ?_
  rintro e w2 ⟨rfl, q2⟩
  have P2 := below_at q2 P1 (heap_lt P1)
  have e2 := e1.trans (Ext.below_all _ q2)
  have c2 : w2.cell? ⟨bb, o + 1, none⟩ = some (.string (str p1)) := (World.cell?_of_block (w := w1) (a := ⟨bb, o + 1, none⟩) (q2.block bb hbl)).trans HC1.out
  have hbl2 : bb < w2.heap.size := by have := q2.size; omega
  clear P1 q2 e1 hp hc0 HC1 hbl
  go_upto_region 7 with ((with_reducible apply at_store_new 24); (case hx => exact rfl); (case hy => exact rfl); (case hg => first | rfl | simp); (case hi => kernel_rfl); (case hold => rfl); (case h1 => kernel_rfl))
  have q3 : Below w2.heap.size w2 (w2.alloc (.cells (adC x) 24)) := (Below.refl _ w2).alloc (Nat.le_refl _) _
  have P3 := below_at q3 P2 (heap_lt P2)
  have X3 := heap_alloc_new w2 (.cells (adC x) 24)
  have e3 := e2.trans (Ext.below_all _ q3)
  have c3 : (w2.alloc (.cells (adC x) 24)).cell? ⟨bb, o + 1, none⟩ = some (.string (str p1)) := (World.cell?_of_block (w := w2) (a := ⟨bb, o + 1, none⟩) (q3.block bb hbl2)).trans c2
  obtain ⟨gx, hgx⟩ : ∃ y, w2.heap.size = y := ⟨_, rfl⟩
  have hne : gx ≠ g := by have := heap_lt P2; omega
  rw [hgx] at X3 ⊢
  generalize w2.alloc (.cells (adC x) 24) = w3 at P3 X3 e3 c3 ⊢
  have HP3 := Lib.hid P3
  have HX3 := Lib.hid X3
  clear q3 P2 e2 c2 hbl2 hgx P3 X3
  go_wp2_with fail
  refine (hq w3).mono ?_
  rintro e w4 ⟨rfl, rfl⟩
  have P3 := HP3.out
  have X3 := HX3.out
  clear hq c3 HP3 HX3
  rcases b with _ | _
  all_goals
    go_upto_region 9 with fail
    go_upto_region 10 with (first | ((with_reducible apply at_load_row 24); (case hx => exact rfl); (case hg => exact X3); (case hu => exact Tryz.underlying24); (case hd => rfl); (case hi => kernel_rfl)) | ((with_reducible apply at_store_part 24); (case hx => exact rfl); (case hy => exact rfl); (case hg => exact P3); (case hle => simp); (case hi => kernel_rfl); (case h1 => kernel_rfl); (intro w5 g5 P5; replace P5 := Lib.hid P5)))
    have P6 : w5.heap[g]? = some (.cells (cfC { c with own := x } vf vo) 40 (0, 0)) := P5.out
    have X6 := grown_at g5 X3 hne
    have e6 := e3.trans (Ext.of_grown g5 (M := fun j => j = g) fun j h => by injection h with h; exact h.symm)
    clear P5 P3 X3 e3
    go_wp2_with (first | ((with_reducible apply at_load_row 24); (case hx => exact rfl); (case hg => exact X6); (case hu => exact Tryz.underlying24); (case hd => rfl); (case hi => kernel_rfl)))
    refine (hF _).mono ?_
    rintro e w7 ⟨rfl, q7⟩
    have P7 := below_at q7 P6 (heap_lt P6)
    have e7 := e6.trans (Ext.below_all _ q7)
    clear P6 e6 X6 q7
    go_wp2_with ((with_reducible apply at_store_part 36); (case hx => exact rfl); (case hy => exact rfl); (case hg => exact P7); (case hle => simp); (case hi => kernel_rfl); (case h1 => kernel_rfl); (intro w8 g8 P8; replace P8 := Lib.hid P8))
    go_ret
    exact ⟨by simp, P8.out, e7.trans (Ext.of_grown g8 fun j h => by injection h with h; exact h.symm)⟩
end Go.Proofs.YtnmdiageigbphaaGreatDoor
