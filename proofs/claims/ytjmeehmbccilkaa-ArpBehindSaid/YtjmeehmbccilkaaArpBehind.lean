/-
  The walk of the statement ArpBehind.
-/
import Derived.Test.YtjmeehmbccilkaaArp7
namespace Go.Proofs.Ytjmeehmbccilkaa
open Go.RowKit

set_option maxRecDepth 100000 in
set_option maxHeartbeats 2000000 in
theorem behind_out (w : World) (p : Pk) (B : Option Addr) (nb cb : Nat) (v : Int) (hmx : nb ≤ 9223372036854775807)
    (ho : ¬ (p.op = 1 ∨ p.op = 2) ∨ (p.op = 1 ∨ p.op = 2) ∧ (100 < nb ∨ nb ≤ 100 ∧ (v < 0 ∨ 27 < v))) :
    Calls Try.prog 8 #[pkV p, .slice B nb cb, .int .i64 v] w (TruePost w) := by
  go_enter Try.func8, Try.ntmps8
  go_wp2_with fail
  refine (awake5_any _).mono ?_
  rintro e w1 ⟨rfl, hb1⟩
  have hx1 : w1.heap[w.heap.size]? = some (.cells (pkC p) 48 (0, 0)) := below_at hb1 (heap_alloc_at rfl) (by simp)
  have q1 : Below w.heap.size w w1 := ((Below.refl _ w).alloc (Nat.le_refl _) _).trans (hb1.mono (by simp))
  have k1 : w1.cell? ⟨w.heap.size, 0, none⟩ = some (.int .i64 p.op) := cell_of_row w1 _ 0 _ _ _ hx1
  clear hx1 hb1
  rcases ho with ho | ⟨ho, hc⟩
  · have b1 : (p.op != 1) = true := bne_iff_ne.2 fun e => ho (.inl e)
    have b2 : (p.op != 2) = true := bne_iff_ne.2 fun e => ho (.inr e)
    clear ho
    go_wp2_with fail
    go_ret
    exact ⟨rfl, q1⟩
  · rcases ho with ho | ho
    all_goals
      rw [ho] at k1
      clear ho
      rcases hc with hc | ⟨hn, hc | hc⟩
      all_goals
        go_wp2_with fail
        go_ret
        exact ⟨rfl, q1⟩

set_option maxRecDepth 100000 in
set_option maxHeartbeats 4000000 in
theorem behind_in (w : World) (p : Pk) (B : Option Addr) (nb cb : Nat) (lb : List UInt8) (h : BS w w.heap.size B nb cb lb) (k : Nat) (hk : k ≤ 27) (hn : nb ≤ 100) (hp : p.op = 1 ∨ p.op = 2) :
    Calls Try.prog 8 #[pkV p, .slice B nb cb, .int .i64 k] w (TruePost w) := by
  have hll : lb.length ≤ 100 := by have := h.1; omega
  have HP := Lib.hid (show putPk p = (pkB p, 0) from if_pos hp)
  have HG := Lib.hid (get_put_pk p hp lb)
  have e3 := fun w => run_eql_pk w p
  rcases hp with hp | hp
  all_goals
    have HOP := Lib.hid hp
    clear hp
    go_enter Try.func8, Try.ntmps8
    go_wp2_with fail
    refine (awake5_any _).mono ?_
    rintro e w1 ⟨rfl, hb1⟩
    have X1 : w1.heap[w.heap.size]? = some (.cells (pkC p) 48 (0, 0)) := below_at hb1 (heap_alloc_at rfl) (by simp)
    have z1 := hb1.size
    simp at z1
    have q1 : Below w.heap.size w w1 := ((Below.refl _ w).alloc (Nat.le_refl _) _).trans (hb1.mono (by simp))
    have k1 : w1.cell? ⟨w.heap.size, 0, none⟩ = some (.int .i64 p.op) := cell_of_row w1 _ 0 _ _ _ X1
    rw [HOP.out] at k1
    have X := Lib.hid X1
    clear X1 hb1
    go_wp2_with ((with_reducible apply at_load_row 48); (case hx => exact rfl); (case hg => exact X.out); (case hu => exact Try.underlying48); (case hd => rfl); (case hi => kernel_rfl))
    refine (aput_any _ p).mono ?_
    rw [HP.out]
    rintro e w2 ⟨A2, n2, c2, rfl, ho2, hb2⟩
    have hn2 : n2 = 28 := by have := ho2.1; rw [pkB_length] at this; exact this
    subst hn2
    have z2 := hb2.size
    have q2 : Below w.heap.size w w2 := q1.trans (hb2.mono (by omega))
    have X2 := Lib.hid (below_at hb2 X.out (by omega))
    have hc2 : 28 ≤ c2 := ho2.bs.2.1
    have hcm : c2 ≤ maxLen := ho2.bs.2.2.1
    have hcm' : c2 ≤ 9223372036854775807 := by unfold maxLen at hcm; omega
    clear k1 hb2 X
    go_wp2_with (at_builtin; go_must (refine app8 rfl _ _ rfl w2.heap.size _ 0 0 [] rfl (OB.empty w2 _ _ _ rfl (Nat.le_refl _) rfl) w2.heap.size A2 28 c2 (pkB p) rfl (ho2.bs.alloc (Nat.le_refl _) _) (by rw [pkB_length]; simp) (by simp) ?_))
    intro A3 n3 c3 w3 ho3 hb3 _
    have z3 := hb3.size
    simp at z3
    have q3 : Below w.heap.size w w3 := (q2.alloc q2.size _).trans (hb3.mono q2.size)
    go_wp2_with (at_builtin; go_must (refine app8 rfl _ _ rfl w2.heap.size _ n3 c3 _ rfl ho3 w.heap.size B nb cb lb rfl (h.below q3) (by rw [pkB_length]; omega) (by omega) ?_))
    intro A4 n4 c4 w4 ho4 hb4 _
    have z4 := hb4.size
    have q4 : Below w.heap.size w w4 := q3.trans (hb4.mono q2.size)
    have hn4 : n4 ≤ 128 := by have := ho4.1; simp only [List.length_append, pkB_length] at this; omega
    have X4 := Lib.hid (below_at hb4 (below_at hb3 (heap_alloc_of X2.out) (by have := q2.size; omega)) (by have := q2.size; omega))
    go_wp2_with fail
    refine (aget_any w4 A4 n4 c4 _ ho4.bs (by omega)).mono ?_
    rw [HG.out]
    rintro e w5 ⟨rfl, hb5⟩
    have z5 := hb5.size
    have q5 : Below w.heap.size w w5 := q4.trans (hb5.mono q4.size)
    have b25 : Below w2.heap.size w2 w5 := (((Below.refl _ w2).alloc (Nat.le_refl _) _).trans (hb3.trans hb4)).trans (hb5.mono (by omega))
    have X5 := Lib.hid (below_at hb5 X4.out (by have := q2.size; omega))
    have bs5 := Lib.hid ((ho2.bs.below b25).take (k := k) (by omega) c2 (by omega) hcm)
    clear hb3 hb4 hb5 X2 X4 ho3 ho4 b25 hn4
    go_wp2_with ((with_reducible apply at_store_new 48); (case hx => exact rfl); (case hy => exact rfl); (case hg => first | rfl | simp); (case hi => kernel_rfl); (case hold => rfl); (case h1 => kernel_rfl))
    refine (aget_any _ A2 k c2 _ ((bs5.out.alloc (by omega) _).more (by simp; omega)) (by omega)).mono ?_
    rw [getPk_short _ (by rw [List.length_take, pkB_length]; omega)]
    rintro e w6 ⟨rfl, hb6⟩
    have z6 := hb6.size
    simp at z6
    have q6 : Below w.heap.size w w6 := (q5.alloc q5.size _).trans (hb6.mono (by simp; have := q5.size; omega))
    have X6 : w6.heap[w.heap.size]? = some (.cells (pkC p) 48 (0, 0)) := below_at hb6 (heap_alloc_of X5.out) (by simp; have := heap_lt X5.out; omega)
    have Q6 : w6.heap[w5.heap.size]? = some (.cells (pkC p) 48 (0, 0)) := below_at hb6 (heap_alloc_at rfl) (by simp)
    have HX := Lib.hid X6
    have HQ := Lib.hid Q6
    clear X6 Q6 hb6 X5 bs5
    go_upto_region 10 with ((with_reducible apply at_store_new 48); (case hx => exact rfl); (case hy => exact rfl); (case hg => first | rfl | simp); (case hi => kernel_rfl); (case hold => rfl); (case h1 => kernel_rfl))
    go_wp2_with (first | ((with_reducible apply at_load_guard 48); (case hx => exact rfl); (case hg => exact heap_alloc_of HQ.out); (case hw => first | rfl | kernel_rfl); (case hu => exact Try.underlying48); (case hd => rfl); (case hi => kernel_rfl)) | ((with_reducible apply at_load_guard 48); (case hx => exact rfl); (case hg => exact heap_alloc_of HX.out); (case hw => first | rfl | kernel_rfl); (case hu => exact Try.underlying48); (case hd => rfl); (case hi => kernel_rfl)))
    go_ret
    exact ⟨rfl, q6.alloc q6.size _⟩
theorem behind_walk (w : World) (p : Pk) (_ : True) (B : Option Addr) (nb cb : Nat) (lb : List UInt8) (h : BS w w.heap.size B nb cb lb) (v : Int) (_ : (Lit.int .i64 v).wf = true) :
    Calls Try.prog 8 #[pkV p, .slice B nb cb, .int .i64 v] w (TruePost w) := by
  by_cases hc : (p.op = 1 ∨ p.op = 2) ∧ nb ≤ 100 ∧ 0 ≤ v ∧ v ≤ 27
  · obtain ⟨hp, hn, h0, h1⟩ := hc
    obtain ⟨k, rfl⟩ := Int.eq_ofNat_of_zero_le h0
    exact behind_in w p B nb cb lb h k (by omega) hn hp
  · refine behind_out w p B nb cb v (by have h1 := h.2.1; have h2 := h.2.2.1; unfold maxLen at h2; omega) ?_
    by_cases hp : p.op = 1 ∨ p.op = 2
    · refine .inr ⟨hp, ?_⟩
      by_cases hn : 100 < nb
      · exact .inl hn
      · refine .inr ⟨by omega, ?_⟩
        by_cases h0 : v < 0
        · exact .inl h0
        · refine .inr ?_
          by_cases h1 : v ≤ 27
          · exact absurd ⟨hp, by omega, by omega, h1⟩ hc
          · omega
    · exact .inl hp
end Go.Proofs.Ytjmeehmbccilkaa
