/-
  Two packets that are the same are equal; awake of package gatehouselaw5.
-/
import Derived.Test.YtjmeehmbccilkaaArp6
namespace Go.Proofs.Ytjmeehmbccilkaa
open Go.RowKit

theorem part_agg {P : Program} (w : World) (t : TypeId) (cs : Array Value) (off n : Nat) (ha : (isAgg t).run P w = .ok true w) (hs : (sizeOf t).run P w = .ok n w) :
    (part t cs off).run P w = .ok (.agg (cs.extract off (off + n))) w := by simp [part, Sem.run_bind, ha, hs]
theorem part_one {P : Program} (w : World) (t : TypeId) (cs : Array Value) (off : Nat) (v : Value) (ha : (isAgg t).run P w = .ok false w) (hv : cs[off]? = some v) :
    (part t cs off).run P w = .ok v w := by simp [part, Sem.run_bind, ha, hv]

theorem eq_mac_in (w : World) (d : Nat) (m : Mac6) : (Op.equalIn (d + 2) 24 (macV m) (macV m)).run Try.prog w = .ok true w := by
  have := run_equalIn_bytes (P := Try.prog) w d 24 5 6 Try.underlying24 Try.underlying5 (fun w => by kernel_rfl) m.bytes m.bytes rfl rfl
  rw [beq_self_eq_true] at this
  exact this
theorem eq_ad_in (w : World) (d : Nat) (m : Ad4) : (Op.equalIn (d + 2) 46 (adV m) (adV m)).run Try.prog w = .ok true w := by
  have := run_equalIn_bytes (P := Try.prog) w d 46 5 4 Try.underlying46 Try.underlying5 (fun w => by kernel_rfl) m.bytes m.bytes rfl rfl
  rw [beq_self_eq_true] at this
  exact this

set_option maxRecDepth 100000 in
set_option maxHeartbeats 1000000 in
theorem eq_pk_fields (w : World) (p : Pk) : (Op.eqFields 9999 (pkC p) (pkC p) (Try.prog.fieldsOf 48).toList).run Try.prog w = .ok true w := by
  have q0 := part_one (P := Try.prog) w 3 (pkC p) 0 _ (by kernel_rfl) rfl
  have q1 := part_agg (P := Try.prog) w 24 (pkC p) 1 6 (by kernel_rfl) (by kernel_rfl)
  have q2 := part_agg (P := Try.prog) w 46 (pkC p) 7 4 (by kernel_rfl) (by kernel_rfl)
  have q3 := part_agg (P := Try.prog) w 24 (pkC p) 11 6 (by kernel_rfl) (by kernel_rfl)
  have q4 := part_agg (P := Try.prog) w 46 (pkC p) 17 4 (by kernel_rfl) (by kernel_rfl)
  change _ = Result.ok (macV p.fm) w at q1
  change _ = Result.ok (adV p.fr) w at q2
  change _ = Result.ok (macV p.tm) w at q3
  change _ = Result.ok (adV p.ta) w at q4
  have e0 := run_equalIn_int (P := Try.prog) w 9998 3 .i64 .i64 p.op p.op Try.underlying3
  rw [beq_self_eq_true] at e0
  change (Op.equalIn 9999 _ _ _).run _ _ = _ at e0
  change _ = Result.ok (Value.int .i64 p.op) w at q0
  have e1 : (Op.equalIn 9999 24 (macV p.fm) (macV p.fm)).run Try.prog w = .ok true w := eq_mac_in w 9997 p.fm
  have e2 : (Op.equalIn 9999 46 (adV p.fr) (adV p.fr)).run Try.prog w = .ok true w := eq_ad_in w 9997 p.fr
  have e3 : (Op.equalIn 9999 24 (macV p.tm) (macV p.tm)).run Try.prog w = .ok true w := eq_mac_in w 9997 p.tm
  have e4 : (Op.equalIn 9999 46 (adV p.ta) (adV p.ta)).run Try.prog w = .ok true w := eq_ad_in w 9997 p.ta
  simp only [Program.fieldsOf, Try.underlying48, Op.eqFields, Sem.run_bind, Sem.run_ite, q0, q1, q2, q3, q4, Result.andThen_ok, e0, e1, e2, e3, e4]
  simp
theorem run_eql_pk (w : World) (p : Pk) : (binOp .eql 48 (pkV p) (pkV p)).run Try.prog w = .ok (.bool true) w := by
  rw [run_eql_struct, run_equalIn_agg w 9999 48 (pkC p) (pkC p) (by kernel_rfl) (by kernel_rfl), eq_pk_fields w p]
  rfl
theorem run_neq_rpk (w : World) (p : Pk) : (binOp .neq 55 (pkV p) (pkV p)).run Try.prog w = .ok (.bool false) w := by
  rw [run_neq_struct, run_equalIn_agg w 9999 55 (pkC p) (pkC p) (by kernel_rfl) (by kernel_rfl), show Try.prog.fieldsOf 55 = Try.prog.fieldsOf 48 by kernel_rfl, eq_pk_fields w p]
  rfl

def pk1 : Pk := ⟨1, m2, ⟨10, 0, 0, 1⟩, zero6, ⟨10, 0, 0, 2⟩⟩
theorem pkC_pk1 : pkC pk1 = #[.int .i64 1, .int .u8 2, .int .u8 0, .int .u8 0, .int .u8 0, .int .u8 0, .int .u8 0, .int .u8 10, .int .u8 0, .int .u8 0, .int .u8 1, .int .u8 0, .int .u8 0, .int .u8 0, .int .u8 0, .int .u8 0, .int .u8 0, .int .u8 10, .int .u8 0, .int .u8 0, .int .u8 2] := by simp [pk1, zero6, m2]

set_option maxRecDepth 100000 in
set_option maxHeartbeats 2000000 in
theorem awake5_any (w : World) : Calls Try.prog 24 #[] w (TruePost w) := by
  have he := fun w => run_eql_pk w pk1
  go_enter Try.func24, Try.ntmps24
  go_wp2_with (first | ((with_reducible apply at_store_new 48); (case hx => exact rfl); (case hy => exact rfl); (case hg => first | rfl | simp); (case hi => kernel_rfl); (case hold => rfl); (case h1 => kernel_rfl)) | ((with_reducible apply at_load_row 48); (case hx => exact rfl); (case hg => exact heap_alloc_at rfl); (case hu => exact Try.underlying48); (case hd => rfl); (case hi => kernel_rfl)))
  rw [← pkC_pk1]
  refine (aput_any _ pk1).mono ?_
  rw [show putPk pk1 = (pkB pk1, 0) from if_pos (.inl rfl)]
  rintro e w1 ⟨A1, n1, c1, rfl, ho1, hb1⟩
  have P1 : w1.heap[w.heap.size]? = some (.cells (pkC pk1) 48 (0, 0)) := below_at hb1 (heap_alloc_at rfl) (by simp)
  have z1 := hb1.size
  simp at z1
  have q1 : Below w.heap.size w w1 := ((Below.refl _ w).alloc (Nat.le_refl _) _).trans (hb1.mono (by simp))
  have P := Lib.hid P1
  have hn1 : n1 = 28 := by have := ho1.1; rw [pkB_length] at this; exact this
  subst hn1
  clear P1 hb1
  go_wp2_with fail
  refine (aget_any w1 A1 28 c1 _ ho1.bs (by omega)).mono ?_
  rw [show getPk (pkB pk1) = (pk1, 0) by rw [← List.append_nil (pkB pk1)]; exact get_put_pk pk1 (.inl rfl) []]
  rintro e w2 ⟨rfl, hb2⟩
  have P2 := below_at hb2 P.out (by omega)
  have q2 : Below w.heap.size w w2 := q1.trans (hb2.mono (by omega))
  go_upto_region 4 with ((with_reducible apply at_store_new 48); (case hx => exact rfl); (case hy => exact rfl); (case hg => first | rfl | simp); (case hi => kernel_rfl); (case hold => rfl); (case h1 => kernel_rfl))
  have P3 := heap_alloc_of (o := .cells (pkC pk1) 48) P2
  have N3 := heap_alloc_at (w := w2) (o := .cells (pkC pk1) 48) rfl
  clear P2
  go_wp2_with (first | ((with_reducible apply at_load_guard 48); (case hx => exact rfl); (case hg => exact P3); (case hw => first | rfl | kernel_rfl); (case hu => exact Try.underlying48); (case hd => rfl); (case hi => kernel_rfl)) | ((with_reducible apply at_load_guard 48); (case hx => exact rfl); (case hg => exact N3); (case hw => first | rfl | kernel_rfl); (case hu => exact Try.underlying48); (case hd => rfl); (case hi => kernel_rfl)))
  go_ret
  exact ⟨rfl, q2.alloc q2.size _⟩
end Go.Proofs.Ytjmeehmbccilkaa
