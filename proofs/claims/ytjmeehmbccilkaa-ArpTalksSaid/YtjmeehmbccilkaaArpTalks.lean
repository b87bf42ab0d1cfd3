/-
  The walk of the statement ArpTalks.
-/
import Derived.Test.YtjmeehmbccilkaaArp7
namespace Go.Proofs.Ytjmeehmbccilkaa
open Go.RowKit

theorem get_pkB (p : Pk) (hp : p.op = 1 ∨ p.op = 2) : getPk (pkB p) = (p, 0) := by
  have := get_put_pk p hp []
  rwa [List.append_nil] at this

abbrev macC (m : Mac6) : Array Value := #[.int .u8 (m.a.toNat : Int), .int .u8 (m.b.toNat : Int), .int .u8 (m.c.toNat : Int), .int .u8 (m.d.toNat : Int), .int .u8 (m.e.toNat : Int), .int .u8 (m.f.toNat : Int)]
abbrev adC (m : Ad4) : Array Value := #[.int .u8 (m.a.toNat : Int), .int .u8 (m.b.toNat : Int), .int .u8 (m.c.toNat : Int), .int .u8 (m.d.toNat : Int)]
abbrev pkA (b : Mac6) (t : Ad4) (a : Mac6) (f : Ad4) : Array Value := #[.int .i64 2, .int .u8 (b.a.toNat : Int), .int .u8 (b.b.toNat : Int), .int .u8 (b.c.toNat : Int), .int .u8 (b.d.toNat : Int), .int .u8 (b.e.toNat : Int), .int .u8 (b.f.toNat : Int), .int .u8 (t.a.toNat : Int), .int .u8 (t.b.toNat : Int), .int .u8 (t.c.toNat : Int), .int .u8 (t.d.toNat : Int), .int .u8 (a.a.toNat : Int), .int .u8 (a.b.toNat : Int), .int .u8 (a.c.toNat : Int), .int .u8 (a.d.toNat : Int), .int .u8 (a.e.toNat : Int), .int .u8 (a.f.toNat : Int), .int .u8 (f.a.toNat : Int), .int .u8 (f.b.toNat : Int), .int .u8 (f.c.toNat : Int), .int .u8 (f.d.toNat : Int)]
theorem run_field_body (w : World) (t f : Mac6) (k : Int) (A : Option Addr) (n c : Nat) : (Instr.field 27 (frV t f k A n c) 3).run Try.prog w = .ok (.slice A n c) w := by kernel_rfl

set_option maxRecDepth 100000 in
set_option maxHeartbeats 4000000 in
theorem talks_walk (w : World) (a : Mac6) (_ : True) (b : Mac6) (_ : True) (f : Ad4) (_ : True) (t : Ad4) (_ : True) :
    Calls Try.prog 11 #[macV a, macV b, adV f, adV t] w (TruePost w) := by
  go_enter Try.func11, Try.ntmps11
  go_wp2_with fail
  refine (awake5_any _).mono ?_
  rintro e w1 ⟨rfl, hb1⟩
  have z1 := hb1.size
  simp at z1
  have q1 : Below w.heap.size w w1 := (((((Below.refl _ w).alloc (Nat.le_refl _) _).alloc (by simp) _).alloc (by simp; omega) _).alloc (by simp; omega) _).trans (hb1.mono (by simp; omega))
  have B0 : w1.heap[w.heap.size]? = some (.cells (macC a) 24 (0, 0)) := below_at hb1 (heap_alloc_of (heap_alloc_of (heap_alloc_of (heap_alloc_at rfl)))) (by simp; try omega)
  have B1 : w1.heap[w.heap.size + 1]? = some (.cells (macC b) 24 (0, 0)) := below_at hb1 (heap_alloc_of (heap_alloc_of (heap_alloc_at (by simp)))) (by simp; try omega)
  have B2 : w1.heap[w.heap.size + 1 + 1]? = some (.cells (adC f) 46 (0, 0)) := below_at hb1 (heap_alloc_of (heap_alloc_at (by simp))) (by simp)
  have B3 : w1.heap[w.heap.size + 1 + 1 + 1]? = some (.cells (adC t) 46 (0, 0)) := below_at hb1 (heap_alloc_at (by simp)) (by simp)
  have B := Lib.hid (And.intro B0 (And.intro B1 (And.intro B2 B3)))
  clear B0 B1 B2 B3 hb1
  go_wp2_with (first | ((with_reducible apply at_load_row 24); (case hx => exact rfl); (case hg => exact B.out.1); (case hu => exact Try.underlying24); (case hd => rfl); (case hi => kernel_rfl)) | ((with_reducible apply at_load_row 24); (case hx => exact rfl); (case hg => exact B.out.2.1); (case hu => exact Try.underlying24); (case hd => rfl); (case hi => kernel_rfl)) | ((with_reducible apply at_load_row 46); (case hx => exact rfl); (case hg => exact B.out.2.2.1); (case hu => exact Try.underlying46); (case hd => rfl); (case hi => kernel_rfl)) | ((with_reducible apply at_load_row 46); (case hx => exact rfl); (case hg => exact B.out.2.2.2); (case hu => exact Try.underlying46); (case hd => rfl); (case hi => kernel_rfl)))
  refine (aask_any w1 a f t).mono ?_
  rintro e w2 ⟨A2, n2, c2, rfl, ho2, hb2⟩
  have z2 := hb2.size
  have q2 : Below w.heap.size w w2 := q1.trans (hb2.mono (by omega))
  have hn2 : n2 = 28 := by have := ho2.1; rw [pkB_length] at this; exact this
  have B2 := Lib.hid (And.intro (below_at hb2 B.out.1 (by omega)) (And.intro (below_at hb2 B.out.2.1 (by omega)) (And.intro (below_at hb2 B.out.2.2.1 (by omega)) (below_at hb2 B.out.2.2.2 (by omega)))))
  clear hb2 B
  subst hn2
  go_wp2_with (rw [run_field_body])
  refine (aget_any w2 A2 28 c2 _ ho2.bs (by omega)).mono ?_
  rw [get_pkB _ (.inl rfl)]
  rintro e w3 ⟨rfl, hb3⟩
  have z3 := hb3.size
  have q3 : Below w.heap.size w w3 := q2.trans (hb3.mono (by omega))
  have B3 := Lib.hid (And.intro (below_at hb3 B2.out.1 (by omega)) (And.intro (below_at hb3 B2.out.2.1 (by omega)) (And.intro (below_at hb3 B2.out.2.2.1 (by omega)) (below_at hb3 B2.out.2.2.2 (by omega)))))
  clear hb3 B2 ho2
  go_wp2_with (first | ((with_reducible apply at_store_new 48); (case hx => exact rfl); (case hy => exact rfl); (case hg => first | rfl | simp); (case hi => kernel_rfl); (case hold => rfl); (case h1 => kernel_rfl)) | ((with_reducible apply at_load_row 48); (case hx => exact rfl); (case hg => exact heap_alloc_at rfl); (case hu => exact Try.underlying48); (case hd => rfl); (case hi => kernel_rfl)) | ((with_reducible apply at_load_row 24); (case hx => exact rfl); (case hg => exact heap_alloc_of B3.out.2.1); (case hu => exact Try.underlying24); (case hd => rfl); (case hi => kernel_rfl)))
  refine (aans_any _ b (askPk a f t)).mono ?_
  rw [show ansFr b (askPk a f t) = (⟨a, b, 2054, pkB (ansPk b (askPk a f t))⟩, 0) from if_pos rfl]
  rintro e w4 ⟨A4, n4, c4, rfl, ho4, hb4⟩
  have z4 := hb4.size
  simp at z4
  have q4 : Below w.heap.size w w4 := (q3.alloc (by omega) _).trans (hb4.mono (by simp; omega))
  have hn4 : n4 = 28 := by have := ho4.1; rw [pkB_length] at this; exact this
  subst hn4
  have B4 := Lib.hid (And.intro (below_at hb4 (heap_alloc_of B3.out.1) (by simp; omega)) (And.intro (below_at hb4 (heap_alloc_of B3.out.2.1) (by simp; omega)) (And.intro (below_at hb4 (heap_alloc_of B3.out.2.2.1) (by simp; omega)) (below_at hb4 (heap_alloc_of B3.out.2.2.2) (by simp; omega)))))
  clear hb4 B3
  go_wp2_with ((with_reducible apply at_store_new 27); (case hx => exact rfl); (case hy => exact rfl); (case hg => first | rfl | simp); (case hi => kernel_rfl); (case hold => rfl); (case h1 => kernel_rfl))
  refine (aget_any _ A4 28 c4 _ ((ho4.bs.alloc (Nat.le_refl _) _).more (by simp)) (by omega)).mono ?_
  rw [get_pkB _ (.inr rfl)]
  rintro e w5 ⟨he, hb5⟩
  change e = Ending.returned (.tuple #[.agg (pkA b t a f), .int .i64 0]) at he
  subst he
  have z5 := hb5.size
  simp at z5
  have q5 : Below w.heap.size w w5 := (q4.alloc (by omega) _).trans (hb5.mono (by simp; omega))
  have B5 := Lib.hid (And.intro (below_at hb5 (heap_alloc_of B4.out.1) (by simp; omega)) (And.intro (below_at hb5 (heap_alloc_of B4.out.2.1) (by simp; omega)) (And.intro (below_at hb5 (heap_alloc_of B4.out.2.2.1) (by simp; omega)) (below_at hb5 (heap_alloc_of B4.out.2.2.2) (by simp; omega)))))
  have F5 : w5.heap[w4.heap.size]? = some (.cells (frC a b 2054 A4 28 c4) 27 (0, 0)) := below_at hb5 (heap_alloc_at rfl) (by simp)
  have HF5 := Lib.hid F5
  clear hb5 B4 ho4 F5
  go_upto_region 6 with ((with_reducible apply at_store_new 48); (case hx => exact rfl); (case hy => exact rfl); (case hg => first | rfl | simp); (case hi => kernel_rfl); (case hold => rfl); (case h1 => kernel_rfl))
  obtain ⟨k5, f5⟩ := cells_of (heap_alloc_of (o := .cells (pkA b t a f) 48) HF5.out)
  have e1 := fun w => run_eql_mac w a a
  have e2 := fun w => run_eql_mac w b b
  rw [(meq_iff a a).2 rfl] at e1
  rw [(meq_iff b b).2 rfl] at e2
  have e3 : ∀ w, (binOp .eql 48 (.agg (pkA b t a f)) (.agg (pkA b t a f))).run Try.prog w = .ok (.bool true) w := fun w => run_eql_pk w ⟨2, b, t, a, f⟩
  go_wp2_with (first | ((with_reducible apply at_load_guard 48); (case hx => exact rfl); (case hg => exact heap_alloc_at rfl); (case hw => first | rfl | kernel_rfl); (case hu => exact Try.underlying48); (case hd => rfl); (case hi => kernel_rfl)) | ((with_reducible apply at_load_guard 24); (case hx => exact rfl); (case hg => exact heap_alloc_of B5.out.1); (case hw => first | rfl | kernel_rfl); (case hu => exact Try.underlying24); (case hd => rfl); (case hi => kernel_rfl)) | ((with_reducible apply at_load_guard 24); (case hx => exact rfl); (case hg => exact heap_alloc_of B5.out.2.1); (case hw => first | rfl | kernel_rfl); (case hu => exact Try.underlying24); (case hd => rfl); (case hi => kernel_rfl)) | ((with_reducible apply at_load_guard 46); (case hx => exact rfl); (case hg => exact heap_alloc_of B5.out.2.2.1); (case hw => first | rfl | kernel_rfl); (case hu => exact Try.underlying46); (case hd => rfl); (case hi => kernel_rfl)) | ((with_reducible apply at_load_guard 46); (case hx => exact rfl); (case hg => exact heap_alloc_of B5.out.2.2.2); (case hw => first | rfl | kernel_rfl); (case hu => exact Try.underlying46); (case hd => rfl); (case hi => kernel_rfl)))
  go_ret
  exact ⟨rfl, q5.alloc q5.size _⟩
end Go.Proofs.Ytjmeehmbccilkaa
