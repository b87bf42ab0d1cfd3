/-
  The walk of the statement OctetOrder: it answers true.
-/
import Derived.Test.YtmdanljnalfkfaaOctet4
import Derived.Test.YtmdanljnalfkfaaOctet5
import Derived.Deep.RegionWith
import Derived.Deep.DeepCutAuto
namespace Go.Proofs.Ytmdanljnalfkfaa
open Go.RowKit

theorem digits4 (a : Int) (h0 : 0 ≤ a) (h1 : a < 4294967296) : ∃ p q r s : Int, a = p * 16777216 + q * 65536 + r * 256 + s ∧ 0 ≤ p ∧ p < 256 ∧ 0 ≤ q ∧ q < 256 ∧ 0 ≤ r ∧ r < 256 ∧ 0 ≤ s ∧ s < 256 :=
  ⟨a / 16777216, a / 65536 % 256, a / 256 % 256, a % 256, by omega, by omega, by omega, by omega, by omega, by omega, by omega, by omega, by omega⟩
theorem less32 (a b : Int) (ha0 : 0 ≤ a) (ha1 : a < 4294967296) (hb0 : 0 ≤ b) (hb1 : b < 4294967296) :
    Op.bytesLess (str (b32 a)).toList (str (b32 b)).toList = decide (a < b) := by
  rw [toList_str, toList_str]
  simp only [b32, Op.bytesLess, Bool.and_false, Bool.or_false]
  rw [Bool.eq_iff_iff]
  simp only [Bool.or_eq_true, Bool.and_eq_true, decide_eq_true_eq, beq_iff_eq, bN_lt, bN_eq]
  obtain ⟨p, q, r, s, rfl, _, _, _, _, _, _, _, _⟩ := digits4 a ha0 ha1
  obtain ⟨p', q', r', s', rfl, _, _, _, _, _, _, _, _⟩ := digits4 b hb0 hb1
  have e1 : (p * 16777216 + q * 65536 + r * 256 + s) / 16777216 % 256 = p := by omega
  have e2 : (p * 16777216 + q * 65536 + r * 256 + s) / 65536 % 256 = q := by omega
  have e3 : (p * 16777216 + q * 65536 + r * 256 + s) / 256 % 256 = r := by omega
  have e4 : (p * 16777216 + q * 65536 + r * 256 + s) % 256 = s := by omega
  have e5 : (p' * 16777216 + q' * 65536 + r' * 256 + s') / 16777216 % 256 = p' := by omega
  have e6 : (p' * 16777216 + q' * 65536 + r' * 256 + s') / 65536 % 256 = q' := by omega
  have e7 : (p' * 16777216 + q' * 65536 + r' * 256 + s') / 256 % 256 = r' := by omega
  have e8 : (p' * 16777216 + q' * 65536 + r' * 256 + s') % 256 = s' := by omega
  rw [e1, e2, e3, e4, e5, e6, e7, e8]
  omega
theorem less16 (a b : Int) : Op.bytesLess (str (b16 a)).toList (str (b16 b)).toList = decide (a % 65536 < b % 65536) := by
  rw [toList_str, toList_str]
  simp only [b16, Op.bytesLess, Bool.and_false, Bool.or_false]
  rw [Bool.eq_iff_iff]
  simp only [Bool.or_eq_true, Bool.and_eq_true, decide_eq_true_eq, beq_iff_eq, bN_lt, bN_eq]
  omega
def W32Post (w : World) (l : List UInt8) (e : Ending) (w' : World) : Prop :=
  ∃ A n c, e = .returned (.slice A n c) ∧ Later w' A n c l ∧ Below w.heap.size w w'

theorem w32_later (w : World) (v : Int) (hv0 : 0 ≤ v) (hv1 : v < 4294967296) :
    Calls Try.prog 18 #[.slice none 0 0, .int .u32 v] w (W32Post w (b32 v)) := by
  refine (w32_any w _ 0 0 [] v (BS.nil_ _ _) (by simp) hv0 hv1).mono ?_
  rintro e w1 ⟨A, n, c, rfl, ho, hb⟩
  exact ⟨A, n, c, rfl, fun w' hb' => run_str (ho.bs.below hb'), hb⟩
theorem w16_later (w : World) (v : Int) :
    Calls Try.prog 19 #[.slice none 0 0, .int .i64 v] w (W32Post w (b16 v)) := by
  refine (w16_any w _ 0 0 [] v (BS.nil_ _ _) (by simp)).mono ?_
  rintro e w1 ⟨A, n, c, rfl, ho, hb⟩
  exact ⟨A, n, c, rfl, fun w' hb' => run_str (ho.bs.below hb'), hb⟩
set_option maxHeartbeats 1000000 in
theorem order_walk (w : World) (a b : Int) (c d : Int) (ga0 : 0 ≤ a) (ga1 : a < 4294967296) (gb0 : 0 ≤ b) (gb1 : b < 4294967296) : Calls Try.prog 5 #[.int .u32 a, .int .u32 b, .int .i64 c, .int .i64 d] w (TruePost w) := by
  go_enter Try.func5, Try.ntmps5
  go_wp2_with fail
  refine (awake_any w).mono ?_
  rintro e w1 ⟨rfl, hb1⟩
  go_wp2_with fail
  go_upto_region 3 with fail
  go_cut [9, 10] (fun x y wx => x = .string (str (b32 a)) ∧ y = .string (str (b32 b)) ∧ Below w.heap.size w wx)
  case first =>
    go_region_with (first
      | (go_at_call_of 18 (Value.int IntKind.u32 a); go_must (refine (w32_later _ a ga0 ga1).mono ?_; rintro e wa ⟨Aa, na, ca, rfl, la, qa⟩; have xa := la.now))
      | (go_at_call_of 18 (Value.int IntKind.u32 b); go_must (refine (w32_later _ b gb0 gb1).mono ?_; rintro e wb ⟨Ab, nb, cb, rfl, lb, qb⟩; have xb := lb.now; have xa2 := (la.mono qb).now)))
    all_goals (go_wp2_with fail; go_meet; exact ⟨rfl, rfl, (hb1.drew.trans (qa.mono hb1.size)).trans (qb.mono (Nat.le_trans hb1.size qa.size))⟩)
  case rest =>
    obtain ⟨rfl, rfl, hb2⟩ := hcut
    go_upto_region 4 with fail
    go_cut [11, 12] (fun x y wx => x = .string (str (b16 c)) ∧ y = .string (str (b16 d)) ∧ Below w.heap.size w wx)
    case first =>
      go_region_with (first
        | (go_at_call_of 19 (Value.int IntKind.i64 c); go_must (refine (w16_later _ c).mono ?_; rintro e wa ⟨Aa, na, ca, rfl, la, qa⟩; have xa := la.now))
        | (go_at_call_of 19 (Value.int IntKind.i64 d); go_must (refine (w16_later _ d).mono ?_; rintro e wb ⟨Ab, nb, cb, rfl, lb, qb⟩; have xb := lb.now; have xa2 := (la.mono qb).now)))
      all_goals (go_wp2_with fail; go_meet; exact ⟨rfl, rfl, (hb2.drew.trans (qa.mono hb2.size)).trans (qb.mono (Nat.le_trans hb2.size qa.size))⟩)
    case rest =>
      obtain ⟨rfl, rfl, hb3⟩ := hcut
      have hx1 := less32 a b ga0 ga1 gb0 gb1
      have hx2 := less16 c d
      have hx3 : (str (b32 a)).size = 4 := rfl
      have hx4 : (str (b16 c)).size = 2 := rfl
      have hx5 := and16 c
      have hx6 := and16 d
      go_wp2
      go_ret
      exact ⟨rfl, hb3⟩
theorem order_all (w : World) (a : Int) (ha : (Lit.int .u32 a).wf = true) (b : Int) (hb : (Lit.int .u32 b).wf = true) (c : Int) (_ : (Lit.int .i64 c).wf = true) (d : Int) (_ : (Lit.int .i64 d).wf = true) :
    Calls Try.prog 5 #[.int .u32 a, .int .u32 b, .int .i64 c, .int .i64 d] w (TruePost w) :=
  order_walk w a b c d (wf_u32 ha).1 (wf_u32 ha).2 (wf_u32 hb).1 (wf_u32 hb).2
end Go.Proofs.Ytmdanljnalfkfaa
