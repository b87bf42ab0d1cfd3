/-
  An address as data; the reference's Of4.
-/
import Derived.Test.YtabmgggmailomaaDoorOctet6
import Derived.Test.YtabmgggmailomaaDoorBig
import Derived.Handy
namespace Go.Proofs.YtabmgggmailomaaDoor
open Go.RowKit

/-- An address. -/
structure Ad4 where
  a : UInt8
  b : UInt8
  c : UInt8
  d : UInt8
def Ad4.bytes (m : Ad4) : List UInt8 := [m.a, m.b, m.c, m.d]
abbrev adC (m : Ad4) : Array Value := #[.int .u8 (m.a.toNat : Int), .int .u8 (m.b.toNat : Int), .int .u8 (m.c.toNat : Int), .int .u8 (m.d.toNat : Int)]
abbrev adV (m : Ad4) : Value := .agg (adC m)
def adOf (l : List UInt8) : Ad4 := ⟨l.getD 0 0, l.getD 1 0, l.getD 2 0, l.getD 3 0⟩
theorem splice_ad (l : List UInt8) (hl : l.length = 0 ∨ l.length = 4) :
    splice8 #[.int .u8 0, .int .u8 0, .int .u8 0, .int .u8 0] 0 l =
      #[.int .u8 ((adOf l).a.toNat : Int), .int .u8 ((adOf l).b.toNat : Int), .int .u8 ((adOf l).c.toNat : Int), .int .u8 ((adOf l).d.toNat : Int)] := by
  match l, hl with
  | [], _ => simp [splice8, bv, adOf]
  | [a, b, c, d], _ => simp [splice8, bv, adOf]
def of4 (n : Int) : Ad4 := ⟨bN (n / 16777216), bN (n / 65536), bN (n / 256), bN n⟩
theorem of4_be (x y z u : UInt8) : of4 (beN [x, y, z, u]) = ⟨x, y, z, u⟩ := by
  have hx := x.toNat_lt
  have hy := y.toNat_lt
  have hz := z.toNat_lt
  have hu := u.toNat_lt
  have e : (beN [x, y, z, u] : Int) = (((x.toNat : Int) * 256 + y.toNat) * 256 + z.toNat) * 256 + u.toNat := by simp [beN]
  have k : ∀ (v : Int) (b : UInt8), v % 256 = (b.toNat : Int) → bN v = b := fun v b h => UInt8.toNat_inj.1 (by have := bN_val v; omega)
  unfold of4
  rw [e, k _ x (by omega), k _ y (by omega), k _ z (by omega), k _ u (by omega)]

set_option maxRecDepth 100000 in
set_option maxHeartbeats 1000000 in
theorem of4_any (w : World) (n : Int) (h0 : 0 ≤ n) (h1 : n < 4294967296) :
    Calls Tryd.prog 40 #[.int .u32 n] w (fun e w' => e = .returned (adV (of4 n)) ∧ Below w.heap.size w w') := by
  have e1 := bN_val (n / 16777216)
  have e2 := bN_val (n / 65536)
  have e3 := bN_val (n / 256)
  have e4 := bN_val n
  go_enter Tryd.func40, Tryd.ntmps40
  go_wp2_with ((with_reducible apply at_store_new 24); (case hx => exact rfl); (case hy => exact rfl); (case hg => first | rfl | simp); (case hi => kernel_rfl); (case hold => rfl); (case h1 => kernel_rfl))
  refine bodyPost_cell w.heap.size _ _ _ rfl rfl (heap_alloc_at rfl) Tryd.underlying24 rfl (by kernel_rfl) rfl ⟨?_, by go_grown⟩
  have e1' : ((bN (n / 16777216)).toNat : Int) = n / 16777216 := by omega
  show _ = Ending.returned (.agg #[.int .u8 ((bN (n / 16777216)).toNat : Int), .int .u8 ((bN (n / 65536)).toNat : Int), .int .u8 ((bN (n / 256)).toNat : Int), .int .u8 ((bN n).toNat : Int)])
  rw [e1', e2, e3, e4]
end Go.Proofs.YtabmgggmailomaaDoor
