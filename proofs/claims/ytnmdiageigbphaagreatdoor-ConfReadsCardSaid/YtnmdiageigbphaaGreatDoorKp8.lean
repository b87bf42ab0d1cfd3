/-
  conf: the configuration as data; its lines' values set.
-/
import Derived.Test.YtnmdiageigbphaaGreatDoorKp7
namespace Go.Proofs.YtnmdiageigbphaaGreatDoor
open Go.RowKit

/-- A configuration, but for what is kept and open. -/
structure Cf where
  own : Ad4
  lanA : Ad4
  lanB : Int
  lm : Mac6
  wm : Mac6
  fst : Ad4
  lst : Ad4
  time : Int
  dns : Ad4
  udp : Int
  tcp : Int
  icmp : Int
  low : Int
abbrev cfC (c : Cf) (vf vo : Value) : Array Value := #[.int .u8 (c.own.a.toNat : Int), .int .u8 (c.own.b.toNat : Int), .int .u8 (c.own.c.toNat : Int), .int .u8 (c.own.d.toNat : Int),
  .int .u8 (c.lanA.a.toNat : Int), .int .u8 (c.lanA.b.toNat : Int), .int .u8 (c.lanA.c.toNat : Int), .int .u8 (c.lanA.d.toNat : Int), .int .i64 c.lanB,
  .int .u8 (c.lm.a.toNat : Int), .int .u8 (c.lm.b.toNat : Int), .int .u8 (c.lm.c.toNat : Int), .int .u8 (c.lm.d.toNat : Int), .int .u8 (c.lm.e.toNat : Int), .int .u8 (c.lm.f.toNat : Int),
  .int .u8 (c.wm.a.toNat : Int), .int .u8 (c.wm.b.toNat : Int), .int .u8 (c.wm.c.toNat : Int), .int .u8 (c.wm.d.toNat : Int), .int .u8 (c.wm.e.toNat : Int), .int .u8 (c.wm.f.toNat : Int),
  .int .u8 (c.fst.a.toNat : Int), .int .u8 (c.fst.b.toNat : Int), .int .u8 (c.fst.c.toNat : Int), .int .u8 (c.fst.d.toNat : Int),
  .int .u8 (c.lst.a.toNat : Int), .int .u8 (c.lst.b.toNat : Int), .int .u8 (c.lst.c.toNat : Int), .int .u8 (c.lst.d.toNat : Int), .int .i64 c.time,
  .int .u8 (c.dns.a.toNat : Int), .int .u8 (c.dns.b.toNat : Int), .int .u8 (c.dns.c.toNat : Int), .int .u8 (c.dns.d.toNat : Int), .int .i64 c.udp, .int .i64 c.tcp, .int .i64 c.icmp, .int .i64 c.low, vf, vo]
abbrev rdC (c : Cf) (vf vo vs : Value) : Array Value := #[.int .u8 (c.own.a.toNat : Int), .int .u8 (c.own.b.toNat : Int), .int .u8 (c.own.c.toNat : Int), .int .u8 (c.own.d.toNat : Int),
  .int .u8 (c.lanA.a.toNat : Int), .int .u8 (c.lanA.b.toNat : Int), .int .u8 (c.lanA.c.toNat : Int), .int .u8 (c.lanA.d.toNat : Int), .int .i64 c.lanB,
  .int .u8 (c.lm.a.toNat : Int), .int .u8 (c.lm.b.toNat : Int), .int .u8 (c.lm.c.toNat : Int), .int .u8 (c.lm.d.toNat : Int), .int .u8 (c.lm.e.toNat : Int), .int .u8 (c.lm.f.toNat : Int),
  .int .u8 (c.wm.a.toNat : Int), .int .u8 (c.wm.b.toNat : Int), .int .u8 (c.wm.c.toNat : Int), .int .u8 (c.wm.d.toNat : Int), .int .u8 (c.wm.e.toNat : Int), .int .u8 (c.wm.f.toNat : Int),
  .int .u8 (c.fst.a.toNat : Int), .int .u8 (c.fst.b.toNat : Int), .int .u8 (c.fst.c.toNat : Int), .int .u8 (c.fst.d.toNat : Int),
  .int .u8 (c.lst.a.toNat : Int), .int .u8 (c.lst.b.toNat : Int), .int .u8 (c.lst.c.toNat : Int), .int .u8 (c.lst.d.toNat : Int), .int .i64 c.time,
  .int .u8 (c.dns.a.toNat : Int), .int .u8 (c.dns.b.toNat : Int), .int .u8 (c.dns.c.toNat : Int), .int .u8 (c.dns.d.toNat : Int), .int .i64 c.udp, .int .i64 c.tcp, .int .i64 c.icmp, .int .i64 c.low, vf, vo, vs]
/-- The block of a reader of lines. -/
def RB (w : World) (g : Nat) (c : Cf) (vf vo vs : Value) : Prop := w.heap[g]? = some (.cells (rdC c vf vo vs) 60 (0, 0))
def SetP (w : World) (g : Nat) (c : Cf) (vf vo vs : Value) (e : Ending) (w' : World) : Prop := e = .returned (.tuple #[]) ∧ RB w' g c vf vo vs ∧ w.grownBy w' (some g)
set_option maxRecDepth 100000 in
set_option maxHeartbeats 4000000 in
theorem address_first (w : World) (g : Nat) (c : Cf) (vf vo vs : Value) (P : RB w g c vf vo vs) (x : Ad4) :
    Calls Tryz.prog 96 #[.pointer (some ⟨g, 0, none⟩), .string (str nFirst), adV x] w (SetP w g { c with fst := x } vf vo vs) := by
  have x1 : ((str nFirst).toList == [102, 105, 114, 115, 116]) = true := by rw [toList_str]; rfl
  have x2 : ((str nFirst).toList == [108, 97, 115, 116]) = false := by rw [toList_str]; rfl
  have P1 : (w.alloc (.cells (adC x) 24)).heap[g]? = some (.cells (rdC c vf vo vs) 60 (0, 0)) := heap_alloc_of P
  have X1 := heap_alloc_new w (.cells (adC x) 24)
  have gr : w.grownBy (w.alloc (.cells (adC x) 24)) (some g) := World.grownBy_alloc w _ _
  go_enter Tryz.func96, Tryz.ntmps96
  go_upto_region 1 with fail
  generalize w.alloc (.cells (adC x) 24) = w1 at P1 X1 gr ⊢
  go_wp2_with (first | ((with_reducible apply at_load_row 24); (case hx => exact rfl); (case hg => exact X1); (case hu => exact Tryz.underlying24); (case hd => rfl); (case hi => kernel_rfl)) | ((with_reducible apply at_store_part 24); (case hx => exact rfl); (case hy => exact rfl); (case hg => exact P1); (case hle => simp); (case hi => kernel_rfl); (case h1 => kernel_rfl); (intro w2 g2 P2; replace P2 := Lib.hid P2)))
  refine bodyPost_end (v := .tuple #[]) (by simp [results, Tryz.results96]) rfl ?_
  exact ⟨rfl, P2.out, gr.trans g2⟩
set_option maxRecDepth 100000 in
set_option maxHeartbeats 4000000 in
theorem address_last (w : World) (g : Nat) (c : Cf) (vf vo vs : Value) (P : RB w g c vf vo vs) (x : Ad4) :
    Calls Tryz.prog 96 #[.pointer (some ⟨g, 0, none⟩), .string (str nLast), adV x] w (SetP w g { c with lst := x } vf vo vs) := by
  have x1 : ((str nLast).toList == [102, 105, 114, 115, 116]) = false := by rw [toList_str]; rfl
  have x2 : ((str nLast).toList == [108, 97, 115, 116]) = true := by rw [toList_str]; rfl
  have P1 : (w.alloc (.cells (adC x) 24)).heap[g]? = some (.cells (rdC c vf vo vs) 60 (0, 0)) := heap_alloc_of P
  have X1 := heap_alloc_new w (.cells (adC x) 24)
  have gr : w.grownBy (w.alloc (.cells (adC x) 24)) (some g) := World.grownBy_alloc w _ _
  go_enter Tryz.func96, Tryz.ntmps96
  go_upto_region 1 with fail
  generalize w.alloc (.cells (adC x) 24) = w1 at P1 X1 gr ⊢
  go_wp2_with (first | ((with_reducible apply at_load_row 24); (case hx => exact rfl); (case hg => exact X1); (case hu => exact Tryz.underlying24); (case hd => rfl); (case hi => kernel_rfl)) | ((with_reducible apply at_store_part 24); (case hx => exact rfl); (case hy => exact rfl); (case hg => exact P1); (case hle => simp); (case hi => kernel_rfl); (case h1 => kernel_rfl); (intro w2 g2 P2; replace P2 := Lib.hid P2)))
  refine bodyPost_end (v := .tuple #[]) (by simp [results, Tryz.results96]) rfl ?_
  exact ⟨rfl, P2.out, gr.trans g2⟩
set_option maxRecDepth 100000 in
set_option maxHeartbeats 4000000 in
theorem address_dns (w : World) (g : Nat) (c : Cf) (vf vo vs : Value) (P : RB w g c vf vo vs) (x : Ad4) :
    Calls Tryz.prog 96 #[.pointer (some ⟨g, 0, none⟩), .string (str nDns), adV x] w (SetP w g { c with dns := x } vf vo vs) := by
  have x1 : ((str nDns).toList == [102, 105, 114, 115, 116]) = false := by rw [toList_str]; rfl
  have x2 : ((str nDns).toList == [108, 97, 115, 116]) = false := by rw [toList_str]; rfl
  have P1 : (w.alloc (.cells (adC x) 24)).heap[g]? = some (.cells (rdC c vf vo vs) 60 (0, 0)) := heap_alloc_of P
  have X1 := heap_alloc_new w (.cells (adC x) 24)
  have gr : w.grownBy (w.alloc (.cells (adC x) 24)) (some g) := World.grownBy_alloc w _ _
  go_enter Tryz.func96, Tryz.ntmps96
  go_upto_region 1 with fail
  generalize w.alloc (.cells (adC x) 24) = w1 at P1 X1 gr ⊢
  go_wp2_with (first | ((with_reducible apply at_load_row 24); (case hx => exact rfl); (case hg => exact X1); (case hu => exact Tryz.underlying24); (case hd => rfl); (case hi => kernel_rfl)) | ((with_reducible apply at_store_part 24); (case hx => exact rfl); (case hy => exact rfl); (case hg => exact P1); (case hle => simp); (case hi => kernel_rfl); (case h1 => kernel_rfl); (intro w2 g2 P2; replace P2 := Lib.hid P2)))
  refine bodyPost_end (v := .tuple #[]) (by simp [results, Tryz.results96]) rfl ?_
  exact ⟨rfl, P2.out, gr.trans g2⟩
set_option maxRecDepth 100000 in
set_option maxHeartbeats 4000000 in
theorem device_lm (w : World) (g : Nat) (c : Cf) (vf vo vs : Value) (P : RB w g c vf vo vs) (x : Mac6) (rest : Value) :
    Calls Tryz.prog 94 #[.pointer (some ⟨g, 0, none⟩), .string (str nLanmac), macV x, rest] w (SetP w g { c with lm := x } vf vo vs) := by
  have x1 : ((str nLanmac).toList == [108, 97, 110, 109, 97, 99]) = true := by rw [toList_str]; rfl
  have x2 : ((str nLanmac).toList == [119, 97, 110, 109, 97, 99]) = false := by rw [toList_str]; rfl
  have P1 : (w.alloc (.cells (maC x) 28)).heap[g]? = some (.cells (rdC c vf vo vs) 60 (0, 0)) := heap_alloc_of P
  have X1 := heap_alloc_new w (.cells (maC x) 28)
  have gr : w.grownBy (w.alloc (.cells (maC x) 28)) (some g) := World.grownBy_alloc w _ _
  go_enter Tryz.func94, Tryz.ntmps94
  go_upto_region 1 with fail
  generalize w.alloc (.cells (maC x) 28) = w1 at P1 X1 gr ⊢
  go_wp2_with (first | ((with_reducible apply at_load_row 28); (case hx => exact rfl); (case hg => exact X1); (case hu => exact Tryz.underlying28); (case hd => rfl); (case hi => kernel_rfl)) | ((with_reducible apply at_store_part 28); (case hx => exact rfl); (case hy => exact rfl); (case hg => exact P1); (case hle => simp); (case hi => kernel_rfl); (case h1 => kernel_rfl); (intro w2 g2 P2; replace P2 := Lib.hid P2)))
  refine bodyPost_end (v := .tuple #[]) (by simp [results, Tryz.results94]) rfl ?_
  exact ⟨rfl, P2.out, gr.trans g2⟩
set_option maxRecDepth 100000 in
set_option maxHeartbeats 4000000 in
theorem device_wm (w : World) (g : Nat) (c : Cf) (vf vo vs : Value) (P : RB w g c vf vo vs) (x : Mac6) (rest : Value) :
    Calls Tryz.prog 94 #[.pointer (some ⟨g, 0, none⟩), .string (str nWanmac), macV x, rest] w (SetP w g { c with wm := x } vf vo vs) := by
  have x1 : ((str nWanmac).toList == [108, 97, 110, 109, 97, 99]) = false := by rw [toList_str]; rfl
  have x2 : ((str nWanmac).toList == [119, 97, 110, 109, 97, 99]) = true := by rw [toList_str]; rfl
  have P1 : (w.alloc (.cells (maC x) 28)).heap[g]? = some (.cells (rdC c vf vo vs) 60 (0, 0)) := heap_alloc_of P
  have X1 := heap_alloc_new w (.cells (maC x) 28)
  have gr : w.grownBy (w.alloc (.cells (maC x) 28)) (some g) := World.grownBy_alloc w _ _
  go_enter Tryz.func94, Tryz.ntmps94
  go_upto_region 1 with fail
  generalize w.alloc (.cells (maC x) 28) = w1 at P1 X1 gr ⊢
  go_wp2_with (first | ((with_reducible apply at_load_row 28); (case hx => exact rfl); (case hg => exact X1); (case hu => exact Tryz.underlying28); (case hd => rfl); (case hi => kernel_rfl)) | ((with_reducible apply at_store_part 28); (case hx => exact rfl); (case hy => exact rfl); (case hg => exact P1); (case hle => simp); (case hi => kernel_rfl); (case h1 => kernel_rfl); (intro w2 g2 P2; replace P2 := Lib.hid P2)))
  refine bodyPost_end (v := .tuple #[]) (by simp [results, Tryz.results94]) rfl ?_
  exact ⟨rfl, P2.out, gr.trans g2⟩
set_option maxRecDepth 100000 in
set_option maxHeartbeats 4000000 in
theorem count_time (w : World) (g : Nat) (c : Cf) (vf vo vs : Value) (P : RB w g c vf vo vs) (x : Int) (rest : Value) :
    Calls Tryz.prog 95 #[.pointer (some ⟨g, 0, none⟩), .string (str nTime), .int .i64 x, rest] w (SetP w g { c with time := x } vf vo vs) := by
  have x0 : ((str nTime).toList == [116, 105, 109, 101]) = true := by rw [toList_str]; rfl
  have x1 : ((str nTime).toList == [117, 100, 112, 116, 105, 109, 101]) = false := by rw [toList_str]; rfl
  have x2 : ((str nTime).toList == [116, 99, 112, 116, 105, 109, 101]) = false := by rw [toList_str]; rfl
  have x3 : ((str nTime).toList == [105, 99, 109, 112, 116, 105, 109, 101]) = false := by rw [toList_str]; rfl
  have x4 : ((str nTime).toList == [108, 111, 119]) = false := by rw [toList_str]; rfl
  have P1 : w.heap[g]? = some (.cells (rdC c vf vo vs) 60 (0, 0)) := P
  go_enter Tryz.func95, Tryz.ntmps95
  go_wp2_with ((with_reducible apply at_store_one 3); (case hx => exact rfl); (case hy => exact rfl); (case hg => exact P1); (case hle => simp); (case hv => rfl); (case hi => kernel_rfl); (case h1 => rfl); (intro w2 g2 P2; replace P2 := Lib.hid P2))
  refine bodyPost_end (v := .tuple #[]) (by simp [results, Tryz.results95]) rfl ?_
  exact ⟨rfl, P2.out, g2⟩
set_option maxRecDepth 100000 in
set_option maxHeartbeats 4000000 in
theorem count_udp (w : World) (g : Nat) (c : Cf) (vf vo vs : Value) (P : RB w g c vf vo vs) (x : Int) (rest : Value) :
    Calls Tryz.prog 95 #[.pointer (some ⟨g, 0, none⟩), .string (str nUdp), .int .i64 x, rest] w (SetP w g { c with udp := x } vf vo vs) := by
  have x0 : ((str nUdp).toList == [116, 105, 109, 101]) = false := by rw [toList_str]; rfl
  have x1 : ((str nUdp).toList == [117, 100, 112, 116, 105, 109, 101]) = true := by rw [toList_str]; rfl
  have x2 : ((str nUdp).toList == [116, 99, 112, 116, 105, 109, 101]) = false := by rw [toList_str]; rfl
  have x3 : ((str nUdp).toList == [105, 99, 109, 112, 116, 105, 109, 101]) = false := by rw [toList_str]; rfl
  have x4 : ((str nUdp).toList == [108, 111, 119]) = false := by rw [toList_str]; rfl
  have P1 : w.heap[g]? = some (.cells (rdC c vf vo vs) 60 (0, 0)) := P
  go_enter Tryz.func95, Tryz.ntmps95
  go_wp2_with ((with_reducible apply at_store_one 3); (case hx => exact rfl); (case hy => exact rfl); (case hg => exact P1); (case hle => simp); (case hv => rfl); (case hi => kernel_rfl); (case h1 => rfl); (intro w2 g2 P2; replace P2 := Lib.hid P2))
  refine bodyPost_end (v := .tuple #[]) (by simp [results, Tryz.results95]) rfl ?_
  exact ⟨rfl, P2.out, g2⟩
set_option maxRecDepth 100000 in
set_option maxHeartbeats 4000000 in
theorem count_tcp (w : World) (g : Nat) (c : Cf) (vf vo vs : Value) (P : RB w g c vf vo vs) (x : Int) (rest : Value) :
    Calls Tryz.prog 95 #[.pointer (some ⟨g, 0, none⟩), .string (str nTcp), .int .i64 x, rest] w (SetP w g { c with tcp := x } vf vo vs) := by
  have x0 : ((str nTcp).toList == [116, 105, 109, 101]) = false := by rw [toList_str]; rfl
  have x1 : ((str nTcp).toList == [117, 100, 112, 116, 105, 109, 101]) = false := by rw [toList_str]; rfl
  have x2 : ((str nTcp).toList == [116, 99, 112, 116, 105, 109, 101]) = true := by rw [toList_str]; rfl
  have x3 : ((str nTcp).toList == [105, 99, 109, 112, 116, 105, 109, 101]) = false := by rw [toList_str]; rfl
  have x4 : ((str nTcp).toList == [108, 111, 119]) = false := by rw [toList_str]; rfl
  have P1 : w.heap[g]? = some (.cells (rdC c vf vo vs) 60 (0, 0)) := P
  go_enter Tryz.func95, Tryz.ntmps95
  go_wp2_with ((with_reducible apply at_store_one 3); (case hx => exact rfl); (case hy => exact rfl); (case hg => exact P1); (case hle => simp); (case hv => rfl); (case hi => kernel_rfl); (case h1 => rfl); (intro w2 g2 P2; replace P2 := Lib.hid P2))
  refine bodyPost_end (v := .tuple #[]) (by simp [results, Tryz.results95]) rfl ?_
  exact ⟨rfl, P2.out, g2⟩
set_option maxRecDepth 100000 in
set_option maxHeartbeats 4000000 in
theorem count_icmp (w : World) (g : Nat) (c : Cf) (vf vo vs : Value) (P : RB w g c vf vo vs) (x : Int) (rest : Value) :
    Calls Tryz.prog 95 #[.pointer (some ⟨g, 0, none⟩), .string (str nIcmp), .int .i64 x, rest] w (SetP w g { c with icmp := x } vf vo vs) := by
  have x0 : ((str nIcmp).toList == [116, 105, 109, 101]) = false := by rw [toList_str]; rfl
  have x1 : ((str nIcmp).toList == [117, 100, 112, 116, 105, 109, 101]) = false := by rw [toList_str]; rfl
  have x2 : ((str nIcmp).toList == [116, 99, 112, 116, 105, 109, 101]) = false := by rw [toList_str]; rfl
  have x3 : ((str nIcmp).toList == [105, 99, 109, 112, 116, 105, 109, 101]) = true := by rw [toList_str]; rfl
  have x4 : ((str nIcmp).toList == [108, 111, 119]) = false := by rw [toList_str]; rfl
  have P1 : w.heap[g]? = some (.cells (rdC c vf vo vs) 60 (0, 0)) := P
  go_enter Tryz.func95, Tryz.ntmps95
  go_wp2_with ((with_reducible apply at_store_one 3); (case hx => exact rfl); (case hy => exact rfl); (case hg => exact P1); (case hle => simp); (case hv => rfl); (case hi => kernel_rfl); (case h1 => rfl); (intro w2 g2 P2; replace P2 := Lib.hid P2))
  refine bodyPost_end (v := .tuple #[]) (by simp [results, Tryz.results95]) rfl ?_
  exact ⟨rfl, P2.out, g2⟩
set_option maxRecDepth 100000 in
set_option maxHeartbeats 4000000 in
theorem count_low (w : World) (g : Nat) (c : Cf) (vf vo vs : Value) (P : RB w g c vf vo vs) (x : Int) (rest : Value) :
    Calls Tryz.prog 95 #[.pointer (some ⟨g, 0, none⟩), .string (str nLow), .int .i64 x, rest] w (SetP w g { c with low := x } vf vo vs) := by
  have x0 : ((str nLow).toList == [116, 105, 109, 101]) = false := by rw [toList_str]; rfl
  have x1 : ((str nLow).toList == [117, 100, 112, 116, 105, 109, 101]) = false := by rw [toList_str]; rfl
  have x2 : ((str nLow).toList == [116, 99, 112, 116, 105, 109, 101]) = false := by rw [toList_str]; rfl
  have x3 : ((str nLow).toList == [105, 99, 109, 112, 116, 105, 109, 101]) = false := by rw [toList_str]; rfl
  have x4 : ((str nLow).toList == [108, 111, 119]) = true := by rw [toList_str]; rfl
  have P1 : w.heap[g]? = some (.cells (rdC c vf vo vs) 60 (0, 0)) := P
  go_enter Tryz.func95, Tryz.ntmps95
  go_wp2_with ((with_reducible apply at_store_one 3); (case hx => exact rfl); (case hy => exact rfl); (case hg => exact P1); (case hle => simp); (case hv => rfl); (case hi => kernel_rfl); (case h1 => rfl); (intro w2 g2 P2; replace P2 := Lib.hid P2))
  refine bodyPost_end (v := .tuple #[]) (by simp [results, Tryz.results95]) rfl ?_
  exact ⟨rfl, P2.out, g2⟩
end Go.Proofs.YtnmdiageigbphaaGreatDoor
