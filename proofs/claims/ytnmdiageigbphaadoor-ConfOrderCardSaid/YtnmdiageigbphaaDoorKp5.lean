/-
  conf: one value read.
-/
import Derived.Test.YtnmdiageigbphaaDoorKp4
namespace Go.Proofs.YtnmdiageigbphaaDoor
open Go.RowKit

/-- A value of a line. -/
inductive Vl
  | n (v : Nat)
  | a (x : Ad4)
  | m (x : Mac6)
  | o (x : Ad4) (b : Nat)
abbrev owC (x : Ad4) (b : Nat) : Array Value := #[.int .u8 (x.a.toNat : Int), .int .u8 (x.b.toNat : Int), .int .u8 (x.c.toNat : Int), .int .u8 (x.d.toNat : Int), .int .i64 (b : Int)]
def Vl.val : Vl → Value
  | .n v => .iface 3 (.int .i64 (v : Int))
  | .a x => .iface 26 (adV x)
  | .m x => .iface 30 (macV x)
  | .o x b => .iface 110 (.agg (owC x b))
abbrev maC (m : Mac6) : Array Value := #[.int .u8 (m.a.toNat : Int), .int .u8 (m.b.toNat : Int), .int .u8 (m.c.toNat : Int), .int .u8 (m.d.toNat : Int), .int .u8 (m.e.toNat : Int), .int .u8 (m.f.toNat : Int)]
def valO : Option Vl → Value
  | some v => v.val
  | none => Value.nilIface
def valN (s : List UInt8) : Option Vl := (numC s).map Vl.n
def valA (s : List UInt8) : Option Vl := if (parseV s).2 = 0 then some (.a (parseV s).1) else none
def valM (s : List UInt8) : Option Vl := if (parseMV s).2 = 0 then some (.m (parseMV s).1) else none
def valOw (s : List UInt8) : Option Vl := if (cutE 47 s).2.2 = true ∧ (parseV (cutE 47 s).1).2 = 0 ∧ (numC (cutE 47 s).2.1).isSome = true then some (.o (parseV (cutE 47 s).1).1 ((numC (cutE 47 s).2.1).getD 0)) else none
abbrev sUdp : List UInt8 := [117, 100, 112]
abbrev sTcp : List UInt8 := [116, 99, 112]
def valP (s : List UInt8) : Option Vl := if s = sUdp then some (.n 17) else if s = sTcp then some (.n 6) else none
def valK (k : UInt8) (s : List UInt8) : Option Vl := if k = 110 then valN s else if k = 97 then valA s else if k = 109 then valM s else if k = 111 then valOw s else if k = 112 then valP s else none
def VlP (w : World) (v : Option Vl) (e : Ending) (w' : World) : Prop := e = .returned (valO v) ∧ Below w.heap.size w w'
theorem parseMV_err (s : List UInt8) : (parseMV s).2 = 0 ∨ (parseMV s).2 = 9 := by
  unfold parseMV
  split <;> simp

set_option maxRecDepth 100000 in
set_option maxHeartbeats 4000000 in
theorem value_n (w : World) (s : List UInt8) (hl : s.length ≤ 1000000) : Calls Tryd.prog 58 #[.int .i32 110, .string (str s)] w (VlP w (valN s)) := by
  go_enter Tryd.func58, Tryd.ntmps58
  go_wp2_with fail
  refine (numc_any w s (by omega)).mono ?_
  rintro e w1 ⟨rfl, q1⟩
  rcases h : numC s with _ | v
  · have HV := Lib.hid (show valN s = none by rw [valN, h]; rfl)
    clear h
    go_wp2_with fail
    go_ret
    exact ⟨by rw [HV.out]; rfl, q1⟩
  · have HV := Lib.hid (show valN s = some (.n v) by rw [valN, h]; rfl)
    clear h
    go_wp2_with fail
    go_ret
    exact ⟨by rw [HV.out]; rfl, q1⟩
set_option maxRecDepth 100000 in
set_option maxHeartbeats 4000000 in
theorem value_a (w : World) (s : List UInt8) (hl : s.length ≤ 1000000) : Calls Tryd.prog 58 #[.int .i32 97, .string (str s)] w (VlP w (valA s)) := by
  go_enter Tryd.func58, Tryd.ntmps58
  go_wp2_with fail
  refine (parse_any w s (by omega)).mono ?_
  obtain ⟨⟨a, er⟩, hv⟩ : ∃ v, parseV s = v := ⟨_, rfl⟩
  have HE := Lib.hid (parseV_err s)
  unfold ParsePost
  rw [hv] at HE ⊢
  rintro e w1 ⟨rfl, q1⟩
  have HV := Lib.hid hv
  clear hv
  go_upto_region 8 with ((with_reducible apply at_store_new 26); (case hx => exact rfl); (case hy => exact rfl); (case hg => first | rfl | simp); (case hi => kernel_rfl); (case hold => rfl); (case h1 => kernel_rfl))
  have q2 : Below w1.heap.size w1 (w1.alloc (.cells (adC a) 26)) := (Below.refl _ w1).alloc (Nat.le_refl _) _
  have P2 := heap_alloc_new w1 (.cells (adC a) 26)
  have b2 := q1.trans (q2.mono q1.size)
  generalize w1.alloc (.cells (adC a) 26) = w2 at P2 b2 ⊢
  clear q1 q2
  have he := HE.out
  rcases he with rfl | rfl
  · have HR := Lib.hid (show valA s = some (.a a) by rw [valA, HV.out]; rfl)
    go_wp2_with ((with_reducible apply at_load_row 26); (case hx => exact rfl); (case hg => exact P2); (case hu => exact Tryd.underlying26); (case hd => rfl); (case hi => kernel_rfl))
    go_ret
    exact ⟨by rw [HR.out]; rfl, b2⟩
  · have HR := Lib.hid (show valA s = none by rw [valA, HV.out]; rfl)
    go_wp2_with fail
    go_ret
    exact ⟨by rw [HR.out]; rfl, b2⟩
set_option maxRecDepth 100000 in
set_option maxHeartbeats 4000000 in
theorem value_m (w : World) (s : List UInt8) (hl : s.length ≤ 1000000) : Calls Tryd.prog 58 #[.int .i32 109, .string (str s)] w (VlP w (valM s)) := by
  go_enter Tryd.func58, Tryd.ntmps58
  go_wp2_with fail
  refine (parseMac_any w s (by omega)).mono ?_
  obtain ⟨⟨a, er⟩, hv⟩ : ∃ v, parseMV s = v := ⟨_, rfl⟩
  have HE := Lib.hid (parseMV_err s)
  unfold ParseMPost
  rw [hv] at HE ⊢
  rintro e w1 ⟨rfl, q1⟩
  have HV := Lib.hid hv
  clear hv
  go_upto_region 12 with ((with_reducible apply at_store_new 30); (case hx => exact rfl); (case hy => exact rfl); (case hg => first | rfl | simp); (case hi => kernel_rfl); (case hold => rfl); (case h1 => kernel_rfl))
  have q2 : Below w1.heap.size w1 (w1.alloc (.cells (maC a) 30)) := (Below.refl _ w1).alloc (Nat.le_refl _) _
  have P2 := heap_alloc_new w1 (.cells (maC a) 30)
  have b2 := q1.trans (q2.mono q1.size)
  generalize w1.alloc (.cells (maC a) 30) = w2 at P2 b2 ⊢
  clear q1 q2
  have he := HE.out
  rcases he with rfl | rfl
  · have HR := Lib.hid (show valM s = some (.m a) by rw [valM, HV.out]; rfl)
    go_wp2_with ((with_reducible apply at_load_row 30); (case hx => exact rfl); (case hg => exact P2); (case hu => exact Tryd.underlying30); (case hd => rfl); (case hi => kernel_rfl))
    go_ret
    exact ⟨by rw [HR.out]; rfl, b2⟩
  · have HR := Lib.hid (show valM s = none by rw [valM, HV.out]; rfl)
    go_wp2_with fail
    go_ret
    exact ⟨by rw [HR.out]; rfl, b2⟩
set_option maxRecDepth 100000 in
set_option maxHeartbeats 4000000 in
theorem value_o (w : World) (hm : mlIs w) (s : List UInt8) (hl : s.length ≤ 1000000) : Calls Tryd.prog 58 #[.int .i32 111, .string (str s)] w (VlP w (valOw s)) := by
  have hls := cutE_len 47 s
  have hc := cut_any w hm s 47 hl
  obtain ⟨⟨x, y, f⟩, hcv⟩ : ∃ v, cutE 47 s = v := ⟨_, rfl⟩
  rw [hcv] at hls hc
  simp only at hls
  have HC := Lib.hid hcv
  clear hcv hm
  go_enter Tryd.func58, Tryd.ntmps58
  go_wp2_with fail
  refine hc.mono ?_
  rintro e w0 ⟨rfl, q0⟩
  clear hc
  go_wp2_with fail
  refine (parse_any w0 x (by omega)).mono ?_
  obtain ⟨⟨a, er⟩, hv⟩ : ∃ v, parseV x = v := ⟨_, rfl⟩
  have HE := Lib.hid (parseV_err x)
  unfold ParsePost
  rw [hv] at HE ⊢
  rintro e w1 ⟨rfl, q1'⟩
  have HV := Lib.hid hv
  have q1 := q0.trans (q1'.mono q0.size)
  clear hv q0 q1'
  go_upto_region 17 with ((with_reducible apply at_store_new 26); (case hx => exact rfl); (case hy => exact rfl); (case hg => first | rfl | simp); (case hi => kernel_rfl); (case hold => rfl); (case h1 => kernel_rfl))
  have q2 : Below w1.heap.size w1 (w1.alloc (.cells (adC a) 26)) := (Below.refl _ w1).alloc (Nat.le_refl _) _
  have P2 := heap_alloc_new w1 (.cells (adC a) 26)
  have b2 := q1.trans (q2.mono q1.size)
  obtain ⟨g, hg⟩ : ∃ g, w1.heap.size = g := ⟨_, rfl⟩
  rw [hg] at P2 ⊢
  generalize w1.alloc (.cells (adC a) 26) = w2 at P2 b2 ⊢
  clear q1 q2 hg
  go_wp2_with fail
  refine (numc_any w2 y (by omega)).mono ?_
  rintro e w3 ⟨rfl, q3⟩
  have P3 := below_at q3 P2 (heap_lt P2)
  have b3 := b2.trans (q3.mono b2.size)
  clear P2 b2 q3
  have he := HE.out
  rcases hn : numC y with _ | v <;> rcases he with rfl | rfl <;> rcases f with _ | _
  case some.inl.true =>
    have HR := Lib.hid (show valOw s = some (.o a v) by simp [valOw, HC.out, HV.out, hn])
    clear hn
    go_wp2_with ((with_reducible apply at_load_row 26); (case hx => exact rfl); (case hg => exact P3); (case hu => exact Tryd.underlying26); (case hd => rfl); (case hi => kernel_rfl))
    go_ret
    exact ⟨by rw [HR.out]; rfl, b3⟩
  all_goals
    have HR := Lib.hid (show valOw s = none by simp [valOw, HC.out, HV.out, hn])
    clear hn
    go_wp2_with fail
    go_ret
    exact ⟨by rw [HR.out]; rfl, b3⟩
set_option maxRecDepth 100000 in
set_option maxHeartbeats 4000000 in
theorem value_p (w : World) (s : List UInt8) : Calls Tryd.prog 58 #[.int .i32 112, .string (str s)] w (VlP w (valP s)) := by
  by_cases h1 : s = sUdp
  · subst h1
    have x1 : ((str sUdp).toList == [117, 100, 112]) = true := by rw [toList_str]; rfl
    go_enter Tryd.func58, Tryd.ntmps58
    go_wp2_with fail
    go_ret
    exact ⟨rfl, Below.refl _ _⟩
  have x1 : ((str s).toList == [117, 100, 112]) = false := by rw [toList_str]; simpa using h1
  by_cases h2 : s = sTcp
  · subst h2
    have x2 : ((str sTcp).toList == [116, 99, 112]) = true := by rw [toList_str]; rfl
    go_enter Tryd.func58, Tryd.ntmps58
    go_wp2_with fail
    go_ret
    exact ⟨rfl, Below.refl _ _⟩
  have x2 : ((str s).toList == [116, 99, 112]) = false := by rw [toList_str]; simpa using h2
  have HV := Lib.hid (show valP s = none by rw [valP, if_neg h1, if_neg h2])
  clear h1 h2
  go_enter Tryd.func58, Tryd.ntmps58
  go_wp2_with fail
  go_ret
  exact ⟨by rw [HV.out]; rfl, Below.refl _ _⟩
/-- A kind of value. -/
def isKind (k : UInt8) : Prop := k = 110 ∨ k = 97 ∨ k = 109 ∨ k = 111 ∨ k = 112
theorem value_any (w : World) (hm : mlIs w) (k : UInt8) (hk : isKind k) (s : List UInt8) (hl : s.length ≤ 1000000) : Calls Tryd.prog 58 #[.int .i32 (k.toNat : Int), .string (str s)] w (VlP w (valK k s)) := by
  rcases hk with rfl | rfl | rfl | rfl | rfl
  · exact value_n w s hl
  · exact value_a w s hl
  · exact value_m w s hl
  · exact value_o w hm s hl
  · exact value_p w s
end Go.Proofs.YtnmdiageigbphaaDoor
