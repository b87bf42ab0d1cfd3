/-
  The walk of the statement AddrMasks.
-/
import Derived.Test.YtabmgggmailomaaDoorAn9
import Derived.Test.YtabmgggmailomaaDoorAn10
import Derived.Test.YtabmgggmailomaaDoorRegion2
namespace Go.Proofs.YtabmgggmailomaaDoor
open Go.RowKit

theorem wrapU32 (x : Int) : IntKind.u32.wrap x = x % 4294967296 := by simp [IntKind.wrap, IntKind.bits, IntKind.signed]
/-- The numbers of a net and of one half of it. -/
theorem masks_law (na nx : Nat) (b : Int) (b0 : 0 ≤ b) (b1 : b ≤ 31) (ha : na < 4294967296) (hx : nx < 4294967296) :
    ∃ J : Nat, 1 ≤ J ∧ J ≤ 2147483648 ∧ firstN na (behN b) + (2 * J - 1) = lastN na (behN b) ∧ firstN na (behN (b + 1)) + (J - 1) = lastN na (behN (b + 1)) ∧
      (hasN nx na (behN (b + 1)) = true → hasN nx na (behN b) = true) ∧ hasN nx na (behN 32) = decide (nx = na) := by
  obtain ⟨j, hj, rfl⟩ : ∃ j : Nat, j ≤ 31 ∧ b = 31 - (j : Int) := ⟨(31 - b).toNat, by omega, by omega⟩
  have e1 : behN (31 - (j : Int)) = 2 ^ (j + 1) - 1 := beh_mid (j + 1) (by omega) (by omega)
  have e2 : behN (31 - (j : Int) + 1) = 2 ^ j - 1 := beh_mid j (by omega) (by omega)
  have e3 : behN 32 = 2 ^ 0 - 1 := beh_mid 0 (by omega) (by omega)
  have h1 : 1 ≤ (2 : Nat) ^ j := Nat.one_le_two_pow
  have h2 : (2 : Nat) ^ j ≤ 2 ^ 31 := Nat.pow_le_pow_right (by decide) hj
  refine ⟨2 ^ j, h1, h2, ?_, ?_, ?_, ?_⟩
  · rw [e1, firstN_eq na (j + 1) ha (by omega), lastN_eq na (j + 1), Nat.pow_succ]
    omega
  · rw [e2, firstN_eq na j ha (by omega), lastN_eq na j]
  · rw [e1, e2, hasN_eq nx na j hx ha (by omega), hasN_eq nx na (j + 1) hx ha (by omega), decide_eq_true_iff, decide_eq_true_iff, Nat.pow_succ, ← Nat.div_div_eq_div_mul, ← Nat.div_div_eq_div_mul]
    intro h
    rw [h]
  · rw [e3, hasN_eq nx na 0 hx ha (by omega)]
    simp

set_option maxRecDepth 100000 in
theorem addrMasks_out (w : World) (hp : powIs w) (a : Ad4) (b : Int) (x : Ad4) (h : b < 0 ∨ 31 < b) : Calls Tryd.prog 8 #[adV a, .int .i64 b, adV x] w (TruePost w) := by
  have b0 : Below w.heap.size w ((w.alloc (.cells (adC a) 24)).alloc (.cells (adC x) 24)) := ((Below.refl _ w).alloc (Nat.le_refl _) _).alloc (by simp) _
  rcases Int.lt_or_le b 0 with k1 | k1
  case' inl =>
    have d1 : decide (b < 0) = true := decide_eq_true k1
  case' inr =>
    have d1 : decide (b < 0) = false := decide_eq_false (by omega)
    have d2 : decide (31 < b) = true := decide_eq_true (by omega)
  all_goals
    go_enter Tryd.func8, Tryd.ntmps8
    go_wp2_with fail
    refine (awake3_any _ (hp.below b0)).mono ?_
    rintro e w1 ⟨rfl, q1⟩
    go_wp2_with fail
    go_ret
    exact ⟨rfl, b0.trans (q1.mono b0.size)⟩

def MSt (w : World) (a : Ad4) (b : Int) (v7 v8 : Value) (wx : World) : Prop :=
  ∃ g7 g8, v7 = .pointer (some ⟨g7, 0, none⟩) ∧ v8 = .pointer (some ⟨g8, 0, none⟩) ∧ wx.heap[g7]? = some (.cells (netC a b) 29 (0, 0)) ∧ wx.heap[g8]? = some (.cells (netC a (b + 1)) 29 (0, 0)) ∧ Below w.heap.size w wx

set_option maxRecDepth 100000 in
set_option maxHeartbeats 8000000 in
theorem addrMasks_in (w : World) (hp : powIs w) (a : Ad4) (b : Int) (x : Ad4) (k0 : 0 ≤ b) (k1 : b ≤ 31) : Calls Tryd.prog 8 #[adV a, .int .i64 b, adV x] w (TruePost w) := by
  obtain ⟨J, j1, j2, law1, law2, law3, law4⟩ := masks_law (numA a) (numA x) b k0 k1 (numA_lt a) (numA_lt x)
  have nf := numA_of4 _ (first_lt (numA a) (behN b) (numA_lt a))
  have nl := numA_of4 _ (last_lt (numA a) (behN b) (numA_lt a) (behN_lt b))
  have mf := numA_of4 _ (first_lt (numA a) (behN (b + 1)) (numA_lt a))
  have ml := numA_of4 _ (last_lt (numA a) (behN (b + 1)) (numA_lt a) (behN_lt (b + 1)))
  have x1 := numA_lt (of4 (lastN (numA a) (behN b) : Nat))
  have x2 := numA_lt (of4 (lastN (numA a) (behN (b + 1)) : Nat))
  rw [← nf, ← nl] at law1
  rw [← mf, ← ml] at law2
  have heq : hasN (numA x) (numA a) (behN 32) = adeq a x := by
    rw [law4, Bool.eq_iff_iff, decide_eq_true_iff, adeq_iff]
    exact ⟨fun h => (numA_inj h).symm, fun h => by rw [h]⟩
  obtain ⟨aF, eF⟩ : ∃ v, of4 ((firstN (numA a) (behN b) : Nat) : Int) = v := ⟨_, rfl⟩
  obtain ⟨aL, eL⟩ : ∃ v, of4 ((lastN (numA a) (behN b) : Nat) : Int) = v := ⟨_, rfl⟩
  obtain ⟨cF, gF⟩ : ∃ v, of4 ((firstN (numA a) (behN (b + 1)) : Nat) : Int) = v := ⟨_, rfl⟩
  obtain ⟨cL, gL⟩ : ∃ v, of4 ((lastN (numA a) (behN (b + 1)) : Nat) : Int) = v := ⟨_, rfl⟩
  rw [eF, eL] at law1
  rw [gF, gL] at law2
  rw [eL] at x1
  rw [gL] at x2
  have EF := Lib.hid eF; have EL := Lib.hid eL; have GF := Lib.hid gF; have GL := Lib.hid gL
  obtain ⟨n1, hn1⟩ : ∃ n, numA aF = n := ⟨_, rfl⟩
  obtain ⟨n2, hn2⟩ : ∃ n, numA aL = n := ⟨_, rfl⟩
  obtain ⟨m1, hm1⟩ : ∃ n, numA cF = n := ⟨_, rfl⟩
  obtain ⟨m2, hm2⟩ : ∃ n, numA cL = n := ⟨_, rfl⟩
  rw [hn1, hn2] at law1
  rw [hm1, hm2] at law2
  rw [hn2] at x1
  rw [hm2] at x2
  have N1 := Lib.hid hn1; have N2 := Lib.hid hn2; have M1 := Lib.hid hm1; have M2 := Lib.hid hm2
  have L3 := Lib.hid law3
  have HQ := Lib.hid heq
  have LL1 := Lib.hid law1
  have LL2 := Lib.hid law2
  have dd1 : (n2 : Int) - n1 = 2 * (J : Int) - 1 := by omega
  have dd2 : (m2 : Int) - m1 = (J : Int) - 1 := by omega
  obtain ⟨d9, hd9⟩ : ∃ d9 : Nat, d9 = J - 1 := ⟨_, rfl⟩
  have bd : d9 ≤ 2147483647 := by omega
  have W1 := Lib.hid (show IntKind.u32.wrap ((n2 : Int) - n1) = 2 * (d9 : Int) + 1 by rw [wrapU32]; omega)
  have W2 := Lib.hid (show IntKind.u32.wrap ((m2 : Int) - m1) = (d9 : Int) by rw [wrapU32]; omega)
  clear hd9 nf nl mf ml law1 law2 law3 law4 eF eL gF gL hn1 hn2 hm1 hm2 heq dd1 dd2
  have d1 : decide (b < 0) = false := decide_eq_false (by omega)
  have d2 : decide (31 < b) = false := decide_eq_false (by omega)
  have P0 : ((w.alloc (.cells (adC a) 24)).alloc (.cells (adC x) 24)).heap[w.heap.size]? = some (.cells (adC a) 24 (0, 0)) := heap_alloc_of (heap_alloc_new w _)
  have X0 : ((w.alloc (.cells (adC a) 24)).alloc (.cells (adC x) 24)).heap[w.heap.size + 1]? = some (.cells (adC x) 24 (0, 0)) := heap_alloc_at (by simp)
  have b0 : Below w.heap.size w ((w.alloc (.cells (adC a) 24)).alloc (.cells (adC x) 24)) := ((Below.refl _ w).alloc (Nat.le_refl _) _).alloc (by simp) _
  go_enter Tryd.func8, Tryd.ntmps8
  go_upto_region 1 with fail
  generalize (w.alloc (.cells (adC a) 24)).alloc (.cells (adC x) 24) = w0 at P0 X0 b0 ⊢
  obtain ⟨g, hg⟩ : ∃ g, w.heap.size = g := ⟨_, rfl⟩
  rw [hg] at P0 X0 ⊢
  have HG := Lib.hid hg
  clear hg
  go_wp2_with fail
  refine (awake3_any w0 (hp.below b0)).mono ?_
  rintro e w1 ⟨rfl, q1⟩
  have P1 := below_at q1 P0 (heap_lt P0)
  have X1 := below_at q1 X0 (heap_lt X0)
  have b1 := b0.trans (q1.mono b0.size)
  clear P0 X0 b0 q1
  go_upto_region 5 with fail
  go_cut [7, 8] (fun v7 v8 wx => MSt w1 a b v7 v8 wx)
  case first =>
    have hgl := heap_lt P1
    have ewb : IntKind.i64.wrap (b + 1) = b + 1 := IntWalk.i64_in _ (by omega)
    have CA := Ext.at_ (M := fun k => w1.heap.size ≤ k) (w := w1.drew) P1 (by omega)
    have F0 : ((w1.drew.alloc (.cells z5 29)).alloc (.cells z5 29)).heap[w1.heap.size]? = some (.cells z5 29 (0, 0)) := heap_alloc_of (heap_alloc_new w1.drew _)
    have F1 : ((w1.drew.alloc (.cells z5 29)).alloc (.cells z5 29)).heap[w1.heap.size + 1]? = some (.cells z5 29 (0, 0)) := heap_alloc_at (by simp)
    have r0 : Below w1.heap.size w1 ((w1.drew.alloc (.cells z5 29)).alloc (.cells z5 29)) := (((Below.refl _ w1).drew).alloc (Nat.le_refl _) _).alloc (by simp) _
    refine rg_begin (fun k => w1.heap.size ≤ k) (by kernel_rfl) ?_
    refine rg_take (v := .agg (adC a)) 0 rfl (by kernel_rfl) (by kernel_rfl) (by kernel_rfl) (fun _ _ _ h => h) (by rfl) ?_ ?_
    · (intro x hx; apply run_load_big; (case ho => exact rfl); (case hv => exact rfl); (case hg => exact CA x hx); (case hu => exact Tryd.underlying24); (case hd => rfl); (case hi => kernel_rfl))
    try simp only [Act.put, List.setIfInBounds_toArray, List.set_cons_zero, List.set_cons_succ]
    refine rg_take (v := ?_) 1 rfl (by kernel_rfl) (by kernel_rfl) (by kernel_rfl) (fun _ _ _ h => h) (by rfl) ?_ ?_; rotate_left
    · (intro x hx; go_simp; first | done | with_reducible rfl | (rw [if_pos (by omega)]; try with_reducible rfl) | (rw [if_neg (by omega)]; try with_reducible rfl))
    try simp only [Act.put, List.setIfInBounds_toArray, List.set_cons_zero, List.set_cons_succ]
    refine rg_take (v := ?_) 2 rfl (by kernel_rfl) (by kernel_rfl) (by kernel_rfl) (fun _ _ _ h => h) (by rfl) ?_ ?_; rotate_left
    · (intro x hx; go_simp; first | done | with_reducible rfl | (rw [if_pos (by omega)]; try with_reducible rfl) | (rw [if_neg (by omega)]; try with_reducible rfl))
    try simp only [Act.put, List.setIfInBounds_toArray, List.set_cons_zero, List.set_cons_succ]
    refine rg_take (v := .agg (adC a)) 3 rfl (by kernel_rfl) (by kernel_rfl) (by kernel_rfl) (fun _ _ _ h => h) (by rfl) ?_ ?_
    · (intro x hx; apply run_load_big; (case ho => exact rfl); (case hv => exact rfl); (case hg => exact CA x hx); (case hu => exact Tryd.underlying24); (case hd => rfl); (case hi => kernel_rfl))
    try simp only [Act.put, List.setIfInBounds_toArray, List.set_cons_zero, List.set_cons_succ]
    refine rg_take (v := ?_) 4 rfl (by kernel_rfl) (by kernel_rfl) (by kernel_rfl) (fun _ _ _ h => h) (by rfl) ?_ ?_; rotate_left
    · (intro x hx; go_simp; first | done | with_reducible rfl | (rw [if_pos (by omega)]; try with_reducible rfl) | (rw [if_neg (by omega)]; try with_reducible rfl))
    try simp only [Act.put, List.setIfInBounds_toArray, List.set_cons_zero, List.set_cons_succ]
    refine rg_take (v := ?_) 5 rfl (by kernel_rfl) (by kernel_rfl) (by kernel_rfl) (fun _ _ _ h => h) (by rfl) ?_ ?_; rotate_left
    · (intro x hx; go_simp; first | done | with_reducible rfl | (rw [if_pos (by omega)]; try with_reducible rfl) | (rw [if_neg (by omega)]; try with_reducible rfl))
    try simp only [Act.put, List.setIfInBounds_toArray, List.set_cons_zero, List.set_cons_succ]
    refine rg_take (v := ?_) 6 rfl (by kernel_rfl) (by kernel_rfl) (by kernel_rfl) (fun _ _ _ h => h) (by rfl) ?_ ?_; rotate_left
    · (intro x hx; go_simp; first | done | with_reducible rfl | (rw [if_pos (by omega)]; try with_reducible rfl) | (rw [if_neg (by omega)]; try with_reducible rfl))
    try simp only [Act.put, List.setIfInBounds_toArray, List.set_cons_zero, List.set_cons_succ]
    refine rg_two 7 8 rfl rfl (by kernel_rfl) (by rfl) (by rfl) (fun K hK => ?_) (fun K hK => ?_)
    · go_simp
      refine hK.out _ _ (Ext.below_all _ ((Below.refl _ _).alloc (Nat.le_refl _) _)) ?_
      clear hK K; try simp only [Act.put, List.setIfInBounds_toArray, List.set_cons_zero, List.set_cons_succ]
      refine rg_step 8 rfl (by kernel_rfl) (by rfl) (fun K hK => ?_)
      go_simp
      refine hK.out _ _ (Ext.below_all _ ((Below.refl _ _).alloc (Nat.le_refl _) _)) ?_
      clear hK K; try simp only [Act.put, List.setIfInBounds_toArray, List.set_cons_zero, List.set_cons_succ]
      refine rg_step 9 rfl (by kernel_rfl) (by rfl) (fun K hK => ?_)
      --RAW
      apply wp_store_part 29
      case ho => exact rfl
      case hx => exact rfl
      case hy => exact rfl
      case hg => first | exact F0 | exact F1
      case hle => simp
      case hi => kernel_rfl
      case h1 => exact netC_one a _
      intro w5 g5 P5
      rw [splice5] at P5
      first
        | have Q5 := grown_at g5 F1 (by omega)
        | have Q5 := grown_at g5 F0 (by omega)
      have r5 := below_grown r0 g5 r0.size (by simp <;> omega)
      refine hK.out _ _ (Ext.of_grown g5 (fun k h => by injection h with h; omega)) ?_
      clear hK K
      refine rg_step 10 rfl (by kernel_rfl) (by rfl) (fun K hK => ?_)
      --RAW
      apply wp_store_part 29
      case ho => exact rfl
      case hx => exact rfl
      case hy => exact rfl
      case hg => exact Q5
      case hle => simp
      case hi => kernel_rfl
      case h1 => exact netC_one a _
      intro w6 g6 P6
      rw [splice5] at P6
      have Q6 := grown_at g6 P5 (by omega)
      have r6 := below_grown r5 g6 r5.size (by simp <;> omega)
      refine hK.out _ _ (Ext.of_grown g6 (fun k h => by injection h with h; omega)) ?_
      clear hK K
      refine rg_done (by kernel_rfl) ?_
      --TAIL
      go_wp2_with fail
      go_meet
      exact ⟨_, _, rfl, rfl, Q6, P6, r6⟩
    · go_simp
      refine hK.out _ _ (Ext.below_all _ ((Below.refl _ _).alloc (Nat.le_refl _) _)) ?_
      clear hK K; try simp only [Act.put, List.setIfInBounds_toArray, List.set_cons_zero, List.set_cons_succ]
      refine rg_step 7 rfl (by kernel_rfl) (by rfl) (fun K hK => ?_)
      go_simp
      refine hK.out _ _ (Ext.below_all _ ((Below.refl _ _).alloc (Nat.le_refl _) _)) ?_
      clear hK K; try simp only [Act.put, List.setIfInBounds_toArray, List.set_cons_zero, List.set_cons_succ]
      refine rg_step 9 rfl (by kernel_rfl) (by rfl) (fun K hK => ?_)
      --RAW
      apply wp_store_part 29
      case ho => exact rfl
      case hx => exact rfl
      case hy => exact rfl
      case hg => first | exact F0 | exact F1
      case hle => simp
      case hi => kernel_rfl
      case h1 => exact netC_one a _
      intro w5 g5 P5
      rw [splice5] at P5
      first
        | have Q5 := grown_at g5 F1 (by omega)
        | have Q5 := grown_at g5 F0 (by omega)
      have r5 := below_grown r0 g5 r0.size (by simp <;> omega)
      refine hK.out _ _ (Ext.of_grown g5 (fun k h => by injection h with h; omega)) ?_
      clear hK K
      refine rg_step 10 rfl (by kernel_rfl) (by rfl) (fun K hK => ?_)
      --RAW
      apply wp_store_part 29
      case ho => exact rfl
      case hx => exact rfl
      case hy => exact rfl
      case hg => exact Q5
      case hle => simp
      case hi => kernel_rfl
      case h1 => exact netC_one a _
      intro w6 g6 P6
      rw [splice5] at P6
      have Q6 := grown_at g6 P5 (by omega)
      have r6 := below_grown r5 g6 r5.size (by simp <;> omega)
      refine hK.out _ _ (Ext.of_grown g6 (fun k h => by injection h with h; omega)) ?_
      clear hK K
      refine rg_done (by kernel_rfl) ?_
      --TAIL
      go_wp2_with fail
      go_meet
      exact ⟨_, _, rfl, rfl, Q6, P6, r6⟩
  case rest =>
    obtain ⟨g7, g8, rfl, rfl, N7, N8, qc⟩ := hcut
    have P2 := below_at qc P1 (heap_lt P1)
    have X2 := below_at qc X1 (heap_lt X1)
    have b2 := b1.trans (qc.mono b1.size)
    clear P1 X1 b1 qc
    obtain ⟨wd, hwd⟩ : ∃ wd, wd = wc := ⟨_, rfl⟩
    subst hwd
    go_upto_region 6 with fail
    go_cut [9] (fun v9 wx => v9 = .int .u32 d9 ∧ Below wd.heap.size wd wx)
    case first =>
      have r0 : Below wd.heap.size wd wd.drew := (Below.refl _ _).drew
      have C8 := Ext.at_ (M := fun _ => False) (w := wd.drew) N8 (fun h => h)
      refine rg_begin (fun _ => False) (by kernel_rfl) ?_
      refine rg_take (v := .agg (netC a (b + 1))) 0 rfl (by kernel_rfl) (by kernel_rfl) (by kernel_rfl) (fun _ _ _ h => h) (by rfl) ?_ ?_
      · (intro x hx; apply run_load_big; (case ho => exact rfl); (case hv => exact rfl); (case hg => exact C8 x hx); (case hu => exact Tryd.underlying29); (case hd => rfl); (case hi => kernel_rfl))
      try simp only [Act.put, List.setIfInBounds_toArray, List.set_cons_zero, List.set_cons_succ]
      refine rg_take (v := .agg (netC a (b + 1))) 3 rfl (by kernel_rfl) (by kernel_rfl) (by kernel_rfl) (fun _ _ _ h => h) (by rfl) ?_ ?_
      · (intro x hx; apply run_load_big; (case ho => exact rfl); (case hv => exact rfl); (case hg => exact C8 x hx); (case hu => exact Tryd.underlying29); (case hd => rfl); (case hi => kernel_rfl))
      try simp only [Act.put, List.setIfInBounds_toArray, List.set_cons_zero, List.set_cons_succ]
      refine rg_step 1 rfl (by kernel_rfl) (by rfl) (fun K hK => ?_)
      go_simp
      refine (last_any _ a (b + 1)).mono ?_
      rw [GL.out]
      rintro e u1 ⟨rfl, p1⟩
      have r1 := r0.trans (p1.mono r0.size)
      have C8 := Ext.at_ (M := fun _ => False) (w := u1) (below_at r1 N8 (heap_lt N8)) (fun h => h)
      refine hK.out _ _ (Ext.below_all _ p1) ?_
      clear hK K; try simp only [Act.put, List.setIfInBounds_toArray, List.set_cons_zero, List.set_cons_succ]
      refine rg_step 2 rfl (by kernel_rfl) (by rfl) (fun K hK => ?_)
      go_simp
      refine (numa_any _ cL).mono ?_
      rw [M2.out]
      rintro e u2 ⟨rfl, p2⟩
      have r2 := r1.trans (p2.mono r1.size)
      have C8 := Ext.at_ (M := fun _ => False) (w := u2) (below_at r2 N8 (heap_lt N8)) (fun h => h)
      refine hK.out _ _ (Ext.below_all _ p2) ?_
      clear hK K; try simp only [Act.put, List.setIfInBounds_toArray, List.set_cons_zero, List.set_cons_succ]
      refine rg_step 4 rfl (by kernel_rfl) (by rfl) (fun K hK => ?_)
      go_simp
      refine (first_any _ a (b + 1)).mono ?_
      rw [GF.out]
      rintro e u3 ⟨rfl, p3⟩
      have r3 := r2.trans (p3.mono r2.size)
      refine hK.out _ _ (Ext.below_all _ p3) ?_
      clear hK K; try simp only [Act.put, List.setIfInBounds_toArray, List.set_cons_zero, List.set_cons_succ]
      refine rg_step 5 rfl (by kernel_rfl) (by rfl) (fun K hK => ?_)
      go_simp
      refine (numa_any _ cF).mono ?_
      rw [M1.out]
      rintro e u4 ⟨rfl, p4⟩
      have r4 := r3.trans (p4.mono r3.size)
      refine hK.out _ _ (Ext.below_all _ p4) ?_
      clear hK K; try simp only [Act.put, List.setIfInBounds_toArray, List.set_cons_zero, List.set_cons_succ]
      refine rg_take (v := ?_) 6 rfl (by kernel_rfl) (by kernel_rfl) (by kernel_rfl) (fun _ _ _ h => h) (by rfl) ?_ ?_; rotate_left
      · (intro x hx; go_simp; first | done | with_reducible rfl | (rw [if_pos (by omega)]; try with_reducible rfl) | (rw [if_neg (by omega)]; try with_reducible rfl))
      try simp only [Act.put, List.setIfInBounds_toArray, List.set_cons_zero, List.set_cons_succ]
      refine rg_take (v := ?_) 7 rfl (by kernel_rfl) (by kernel_rfl) (by kernel_rfl) (fun _ _ _ h => h) (by rfl) ?_ ?_; rotate_left
      · (intro x hx; go_simp; first | done | with_reducible rfl | (rw [if_pos (by omega)]; try with_reducible rfl) | (rw [if_neg (by omega)]; try with_reducible rfl))
      try simp only [Act.put, List.setIfInBounds_toArray, List.set_cons_zero, List.set_cons_succ]
      refine rg_done (by kernel_rfl) ?_
      go_wp2_with fail
      go_meet
      exact ⟨by rw [← W2.out], r4⟩
    case rest =>
      obtain ⟨rfl, qd⟩ := hcut
      have N7' := below_at qd N7 (heap_lt N7)
      have N8' := below_at qd N8 (heap_lt N8)
      have P3 := below_at qd P2 (heap_lt P2)
      have X3 := below_at qd X2 (heap_lt X2)
      have b3 := b2.trans (qd.mono b2.size)
      clear N7 N8 P2 X2 b2 qd
      go_upto_region 7 with fail
      obtain ⟨we, hwe⟩ : ∃ we, we = wc := ⟨_, rfl⟩
      subst hwe
      have r0 : Below we.heap.size we we.drew := (Below.refl _ _).drew
      have C8 := Ext.at_ (M := fun _ => False) (w := we.drew) N8' (fun h => h)
      have CX := Ext.at_ (M := fun _ => False) (w := we.drew) X3 (fun h => h)
      have ew := W1.out
      have ew2 : IntKind.u32.wrap (2 * (d9 : Int)) = 2 * (d9 : Int) := by rw [wrapU32]; omega
      have ew3 : IntKind.u32.wrap (2 * (d9 : Int) + 1) = 2 * (d9 : Int) + 1 := by rw [wrapU32]; omega
      have ew4 : (2 * (d9 : Int) + 1 == 2 * (d9 : Int) + 1) = true := beq_self_eq_true _
      have em := fun w => run_eql_ad w a x
      have H8 := Lib.hid C8
      obtain ⟨eq, heq⟩ : ∃ eq, adeq a x = eq := ⟨_, rfl⟩
      have HE := Lib.hid (HQ.out.trans heq)
      rw [heq] at em
      clear heq H8
      by_cases hy : hasN (numA x) (numA a) (behN (b + 1)) = true
      · have HY := Lib.hid hy
        have HXX := Lib.hid (L3.out hy)
        clear hy
        cases eq
        all_goals
          refine rg_begin (fun _ => False) (by kernel_rfl) ?_
          refine rg_take (v := .agg (netC a (b + 1))) 0 rfl (by kernel_rfl) (by kernel_rfl) (by kernel_rfl) (fun _ _ _ h => h) (by rfl) ?_ ?_
          · (intro x hx; apply run_load_big; (case ho => exact rfl); (case hv => exact rfl); (case hg => exact C8 x hx); (case hu => exact Tryd.underlying29); (case hd => rfl); (case hi => kernel_rfl))
          try simp only [Act.put, List.setIfInBounds_toArray, List.set_cons_zero, List.set_cons_succ]
          refine rg_take (v := .agg (adC x)) 1 rfl (by kernel_rfl) (by kernel_rfl) (by kernel_rfl) (fun _ _ _ h => h) (by rfl) ?_ ?_
          · (intro x hx; apply run_load_big; (case ho => exact rfl); (case hv => exact rfl); (case hg => exact CX x hx); (case hu => exact Tryd.underlying24); (case hd => rfl); (case hi => kernel_rfl))
          try simp only [Act.put, List.setIfInBounds_toArray, List.set_cons_zero, List.set_cons_succ]
          refine rg_step 2 rfl (by kernel_rfl) (by rfl) (fun K hK => ?_)
          go_simp
          refine (has_any _ a (b + 1) x).mono ?_
          rw [HY.out]
          rintro e u1 ⟨rfl, p1⟩
          have r1 := r0.trans (p1.mono r0.size)
          have C7 := Ext.at_ (M := fun _ => False) (w := u1) (below_at r1 N7' (heap_lt N7')) (fun h => h)
          have CX := Ext.at_ (M := fun _ => False) (w := u1) (below_at r1 X3 (heap_lt X3)) (fun h => h)
          have CP := Ext.at_ (M := fun _ => False) (w := u1) (below_at r1 P3 (heap_lt P3)) (fun h => h)
          have C8 := Ext.at_ (M := fun _ => False) (w := u1) (below_at r1 N8' (heap_lt N8')) (fun h => h)
          refine hK.out _ _ (Ext.below_all _ p1) ?_
          clear hK K; try simp only [Act.put, List.setIfInBounds_toArray, List.set_cons_zero, List.set_cons_succ]
          refine rg_take (v := ?_) 3 rfl (by kernel_rfl) (by kernel_rfl) (by kernel_rfl) (fun _ _ _ h => h) (by rfl) ?_ ?_; rotate_left
          · (intro x hx; go_simp; first | done | with_reducible rfl | (rw [if_pos (by omega)]; try with_reducible rfl) | (rw [if_neg (by omega)]; try with_reducible rfl))
          try simp only [Act.put, List.setIfInBounds_toArray, List.set_cons_zero, List.set_cons_succ]
          refine rg_take (v := ?_) 4 rfl (by kernel_rfl) (by kernel_rfl) (by kernel_rfl) (fun _ _ _ h => h) (by rfl) ?_ ?_; rotate_left
          · (intro x hx; go_simp; first | done | with_reducible rfl | (rw [if_pos (by omega)]; try with_reducible rfl) | (rw [if_neg (by omega)]; try with_reducible rfl))
          try simp only [Act.put, List.setIfInBounds_toArray, List.set_cons_zero, List.set_cons_succ]
          refine rg_take (v := .agg (netC a b)) 5 rfl (by kernel_rfl) (by kernel_rfl) (by kernel_rfl) (fun _ _ _ h => h) (by rfl) ?_ ?_
          · (intro x hx; apply run_load_big; (case ho => exact rfl); (case hv => exact rfl); (case hg => exact C7 x hx); (case hu => exact Tryd.underlying29); (case hd => rfl); (case hi => kernel_rfl))
          try simp only [Act.put, List.setIfInBounds_toArray, List.set_cons_zero, List.set_cons_succ]
          refine rg_take (v := .agg (adC x)) 6 rfl (by kernel_rfl) (by kernel_rfl) (by kernel_rfl) (fun _ _ _ h => h) (by rfl) ?_ ?_
          · (intro x hx; apply run_load_big; (case ho => exact rfl); (case hv => exact rfl); (case hg => exact CX x hx); (case hu => exact Tryd.underlying24); (case hd => rfl); (case hi => kernel_rfl))
          try simp only [Act.put, List.setIfInBounds_toArray, List.set_cons_zero, List.set_cons_succ]
          refine rg_step 7 rfl (by kernel_rfl) (by rfl) (fun K hK => ?_)
          go_simp
          refine (has_any _ a b x).mono ?_
          rw [HXX.out]
          rintro e u2 ⟨rfl, p2⟩
          have r2 := r1.trans (p2.mono r1.size)
          have C7 := Ext.at_ (M := fun _ => False) (w := u2) (below_at r2 N7' (heap_lt N7')) (fun h => h)
          have CX := Ext.at_ (M := fun _ => False) (w := u2) (below_at r2 X3 (heap_lt X3)) (fun h => h)
          have CP := Ext.at_ (M := fun _ => False) (w := u2) (below_at r2 P3 (heap_lt P3)) (fun h => h)
          have C8 := Ext.at_ (M := fun _ => False) (w := u2) (below_at r2 N8' (heap_lt N8')) (fun h => h)
          refine hK.out _ _ (Ext.below_all _ p2) ?_
          clear hK K; try simp only [Act.put, List.setIfInBounds_toArray, List.set_cons_zero, List.set_cons_succ]
          refine rg_take (v := ?_) 8 rfl (by kernel_rfl) (by kernel_rfl) (by kernel_rfl) (fun _ _ _ h => h) (by rfl) ?_ ?_; rotate_left
          · (intro x hx; go_simp; first | done | with_reducible rfl | (rw [if_pos (by omega)]; try with_reducible rfl) | (rw [if_neg (by omega)]; try with_reducible rfl))
          try simp only [Act.put, List.setIfInBounds_toArray, List.set_cons_zero, List.set_cons_succ]
          refine rg_take (v := ?_) 9 rfl (by kernel_rfl) (by kernel_rfl) (by kernel_rfl) (fun _ _ _ h => h) (by rfl) ?_ ?_; rotate_left
          · (intro x hx; go_simp; first | done | with_reducible rfl | (rw [if_pos (by omega)]; try with_reducible rfl) | (rw [if_neg (by omega)]; try with_reducible rfl))
          try simp only [Act.put, List.setIfInBounds_toArray, List.set_cons_zero, List.set_cons_succ]
          refine rg_take (v := .agg (netC a b)) 10 rfl (by kernel_rfl) (by kernel_rfl) (by kernel_rfl) (fun _ _ _ h => h) (by rfl) ?_ ?_
          · (intro x hx; apply run_load_big; (case ho => exact rfl); (case hv => exact rfl); (case hg => exact C7 x hx); (case hu => exact Tryd.underlying29); (case hd => rfl); (case hi => kernel_rfl))
          try simp only [Act.put, List.setIfInBounds_toArray, List.set_cons_zero, List.set_cons_succ]
          refine rg_take (v := .agg (netC a b)) 13 rfl (by kernel_rfl) (by kernel_rfl) (by kernel_rfl) (fun _ _ _ h => h) (by rfl) ?_ ?_
          · (intro x hx; apply run_load_big; (case ho => exact rfl); (case hv => exact rfl); (case hg => exact C7 x hx); (case hu => exact Tryd.underlying29); (case hd => rfl); (case hi => kernel_rfl))
          try simp only [Act.put, List.setIfInBounds_toArray, List.set_cons_zero, List.set_cons_succ]
          refine rg_take (v := ?_) 17 rfl (by kernel_rfl) (by kernel_rfl) (by kernel_rfl) (fun _ _ _ h => h) (by rfl) ?_ ?_; rotate_left
          · (intro x hx; go_simp; first | done | with_reducible rfl | (rw [if_pos (by omega)]; try with_reducible rfl) | (rw [if_neg (by omega)]; try with_reducible rfl))
          try simp only [Act.put, List.setIfInBounds_toArray, List.set_cons_zero, List.set_cons_succ]
          refine rg_take (v := ?_) 18 rfl (by kernel_rfl) (by kernel_rfl) (by kernel_rfl) (fun _ _ _ h => h) (by rfl) ?_ ?_; rotate_left
          · (intro x hx; go_simp; first | done | with_reducible rfl | (rw [if_pos (by omega)]; try with_reducible rfl) | (rw [if_neg (by omega)]; try with_reducible rfl))
          try simp only [Act.put, List.setIfInBounds_toArray, List.set_cons_zero, List.set_cons_succ]
          refine rg_take (v := ?_) 19 rfl (by kernel_rfl) (by kernel_rfl) (by kernel_rfl) (fun _ _ _ h => h) (by rfl) ?_ ?_; rotate_left
          · (intro x hx; go_simp; first | done | with_reducible rfl | (rw [if_pos (by omega)]; try with_reducible rfl) | (rw [if_neg (by omega)]; try with_reducible rfl))
          try simp only [Act.put, List.setIfInBounds_toArray, List.set_cons_zero, List.set_cons_succ]
          refine rg_step 11 rfl (by kernel_rfl) (by rfl) (fun K hK => ?_)
          go_simp
          refine (last_any _ a b).mono ?_
          rw [EL.out]
          rintro e u3 ⟨rfl, p3⟩
          have r3 := r2.trans (p3.mono r2.size)
          have C7 := Ext.at_ (M := fun _ => False) (w := u3) (below_at r3 N7' (heap_lt N7')) (fun h => h)
          have CX := Ext.at_ (M := fun _ => False) (w := u3) (below_at r3 X3 (heap_lt X3)) (fun h => h)
          have CP := Ext.at_ (M := fun _ => False) (w := u3) (below_at r3 P3 (heap_lt P3)) (fun h => h)
          have C8 := Ext.at_ (M := fun _ => False) (w := u3) (below_at r3 N8' (heap_lt N8')) (fun h => h)
          refine hK.out _ _ (Ext.below_all _ p3) ?_
          clear hK K; try simp only [Act.put, List.setIfInBounds_toArray, List.set_cons_zero, List.set_cons_succ]
          refine rg_step 12 rfl (by kernel_rfl) (by rfl) (fun K hK => ?_)
          go_simp
          refine (numa_any _ aL).mono ?_
          rw [N2.out]
          rintro e u4 ⟨rfl, p4⟩
          have r4 := r3.trans (p4.mono r3.size)
          have C7 := Ext.at_ (M := fun _ => False) (w := u4) (below_at r4 N7' (heap_lt N7')) (fun h => h)
          have CX := Ext.at_ (M := fun _ => False) (w := u4) (below_at r4 X3 (heap_lt X3)) (fun h => h)
          have CP := Ext.at_ (M := fun _ => False) (w := u4) (below_at r4 P3 (heap_lt P3)) (fun h => h)
          have C8 := Ext.at_ (M := fun _ => False) (w := u4) (below_at r4 N8' (heap_lt N8')) (fun h => h)
          refine hK.out _ _ (Ext.below_all _ p4) ?_
          clear hK K; try simp only [Act.put, List.setIfInBounds_toArray, List.set_cons_zero, List.set_cons_succ]
          refine rg_step 14 rfl (by kernel_rfl) (by rfl) (fun K hK => ?_)
          go_simp
          refine (first_any _ a b).mono ?_
          rw [EF.out]
          rintro e u5 ⟨rfl, p5⟩
          have r5 := r4.trans (p5.mono r4.size)
          have C7 := Ext.at_ (M := fun _ => False) (w := u5) (below_at r5 N7' (heap_lt N7')) (fun h => h)
          have CX := Ext.at_ (M := fun _ => False) (w := u5) (below_at r5 X3 (heap_lt X3)) (fun h => h)
          have CP := Ext.at_ (M := fun _ => False) (w := u5) (below_at r5 P3 (heap_lt P3)) (fun h => h)
          have C8 := Ext.at_ (M := fun _ => False) (w := u5) (below_at r5 N8' (heap_lt N8')) (fun h => h)
          refine hK.out _ _ (Ext.below_all _ p5) ?_
          clear hK K; try simp only [Act.put, List.setIfInBounds_toArray, List.set_cons_zero, List.set_cons_succ]
          refine rg_step 15 rfl (by kernel_rfl) (by rfl) (fun K hK => ?_)
          go_simp
          refine (numa_any _ aF).mono ?_
          rw [N1.out]
          rintro e u6 ⟨rfl, p6⟩
          have r6 := r5.trans (p6.mono r5.size)
          have C7 := Ext.at_ (M := fun _ => False) (w := u6) (below_at r6 N7' (heap_lt N7')) (fun h => h)
          have CX := Ext.at_ (M := fun _ => False) (w := u6) (below_at r6 X3 (heap_lt X3)) (fun h => h)
          have CP := Ext.at_ (M := fun _ => False) (w := u6) (below_at r6 P3 (heap_lt P3)) (fun h => h)
          have C8 := Ext.at_ (M := fun _ => False) (w := u6) (below_at r6 N8' (heap_lt N8')) (fun h => h)
          refine hK.out _ _ (Ext.below_all _ p6) ?_
          clear hK K; try simp only [Act.put, List.setIfInBounds_toArray, List.set_cons_zero, List.set_cons_succ]
          refine rg_take (v := ?_) 16 rfl (by kernel_rfl) (by kernel_rfl) (by kernel_rfl) (fun _ _ _ h => h) (by rfl) ?_ ?_; rotate_left
          · (intro x hx; go_simp; first | done | with_reducible rfl | (rw [if_pos (by omega)]; try with_reducible rfl) | (rw [if_neg (by omega)]; try with_reducible rfl))
          try simp only [Act.put, List.setIfInBounds_toArray, List.set_cons_zero, List.set_cons_succ]
          refine rg_take (v := ?_) 20 rfl (by kernel_rfl) (by kernel_rfl) (by kernel_rfl) (fun _ _ _ h => h) (by rfl) ?_ ?_; rotate_left
          · (intro x hx; go_simp; first | done | with_reducible rfl | (rw [if_pos (by omega)]; try with_reducible rfl) | (rw [if_neg (by omega)]; try with_reducible rfl))
          try simp only [Act.put, List.setIfInBounds_toArray, List.set_cons_zero, List.set_cons_succ]
          refine rg_take (v := ?_) 21 rfl (by kernel_rfl) (by kernel_rfl) (by kernel_rfl) (fun _ _ _ h => h) (by rfl) ?_ ?_; rotate_left
          · (intro x hx; go_simp; first | done | with_reducible rfl | (rw [if_pos (by omega)]; try with_reducible rfl) | (rw [if_neg (by omega)]; try with_reducible rfl))
          try simp only [Act.put, List.setIfInBounds_toArray, List.set_cons_zero, List.set_cons_succ]
          refine rg_take (v := ?_) 22 rfl (by kernel_rfl) (by kernel_rfl) (by kernel_rfl) (fun _ _ _ h => h) (by rfl) ?_ ?_; rotate_left
          · (intro x hx; go_simp; first | done | with_reducible rfl | (rw [if_pos (by omega)]; try with_reducible rfl) | (rw [if_neg (by omega)]; try with_reducible rfl))
          try simp only [Act.put, List.setIfInBounds_toArray, List.set_cons_zero, List.set_cons_succ]
          refine rg_take (v := .agg (adC a)) 23 rfl (by kernel_rfl) (by kernel_rfl) (by kernel_rfl) (fun _ _ _ h => h) (by rfl) ?_ ?_
          · (intro x hx; apply run_load_big; (case ho => exact rfl); (case hv => exact rfl); (case hg => exact CP x hx); (case hu => exact Tryd.underlying24); (case hd => rfl); (case hi => kernel_rfl))
          try simp only [Act.put, List.setIfInBounds_toArray, List.set_cons_zero, List.set_cons_succ]
          refine rg_take (v := ?_) 24 rfl (by kernel_rfl) (by kernel_rfl) (by kernel_rfl) (fun _ _ _ h => h) (by rfl) ?_ ?_; rotate_left
          · (intro x hx; go_simp; first | done | with_reducible rfl | (rw [if_pos (by omega)]; try with_reducible rfl) | (rw [if_neg (by omega)]; try with_reducible rfl))
          try simp only [Act.put, List.setIfInBounds_toArray, List.set_cons_zero, List.set_cons_succ]
          refine rg_take (v := .agg (adC x)) 25 rfl (by kernel_rfl) (by kernel_rfl) (by kernel_rfl) (fun _ _ _ h => h) (by rfl) ?_ ?_
          · (intro x hx; apply run_load_big; (case ho => exact rfl); (case hv => exact rfl); (case hg => exact CX x hx); (case hu => exact Tryd.underlying24); (case hd => rfl); (case hi => kernel_rfl))
          try simp only [Act.put, List.setIfInBounds_toArray, List.set_cons_zero, List.set_cons_succ]
          refine rg_take (v := .agg (adC a)) 27 rfl (by kernel_rfl) (by kernel_rfl) (by kernel_rfl) (fun _ _ _ h => h) (by rfl) ?_ ?_
          · (intro x hx; apply run_load_big; (case ho => exact rfl); (case hv => exact rfl); (case hg => exact CP x hx); (case hu => exact Tryd.underlying24); (case hd => rfl); (case hi => kernel_rfl))
          try simp only [Act.put, List.setIfInBounds_toArray, List.set_cons_zero, List.set_cons_succ]
          refine rg_take (v := .agg (adC x)) 28 rfl (by kernel_rfl) (by kernel_rfl) (by kernel_rfl) (fun _ _ _ h => h) (by rfl) ?_ ?_
          · (intro x hx; apply run_load_big; (case ho => exact rfl); (case hv => exact rfl); (case hg => exact CX x hx); (case hu => exact Tryd.underlying24); (case hd => rfl); (case hi => kernel_rfl))
          try simp only [Act.put, List.setIfInBounds_toArray, List.set_cons_zero, List.set_cons_succ]
          refine rg_take (v := ?_) 29 rfl (by kernel_rfl) (by kernel_rfl) (by kernel_rfl) (fun _ _ _ h => h) (by rfl) ?_ ?_; rotate_left
          · (intro x hx; go_simp; first | done | with_reducible rfl | (rw [if_pos (by omega)]; try with_reducible rfl) | (rw [if_neg (by omega)]; try with_reducible rfl))
          try simp only [Act.put, List.setIfInBounds_toArray, List.set_cons_zero, List.set_cons_succ]
          refine rg_step 26 rfl (by kernel_rfl) (by rfl) (fun K hK => ?_)
          go_simp
          refine (has_any _ a 32 x).mono ?_
          rw [HE.out]
          rintro e u7 ⟨rfl, p7⟩
          have r7 := r6.trans (p7.mono r6.size)
          have C7 := Ext.at_ (M := fun _ => False) (w := u7) (below_at r7 N7' (heap_lt N7')) (fun h => h)
          have CX := Ext.at_ (M := fun _ => False) (w := u7) (below_at r7 X3 (heap_lt X3)) (fun h => h)
          have CP := Ext.at_ (M := fun _ => False) (w := u7) (below_at r7 P3 (heap_lt P3)) (fun h => h)
          have C8 := Ext.at_ (M := fun _ => False) (w := u7) (below_at r7 N8' (heap_lt N8')) (fun h => h)
          refine hK.out _ _ (Ext.below_all _ p7) ?_
          clear hK K; try simp only [Act.put, List.setIfInBounds_toArray, List.set_cons_zero, List.set_cons_succ]
          refine rg_take (v := ?_) 30 rfl (by kernel_rfl) (by kernel_rfl) (by kernel_rfl) (fun _ _ _ h => h) (by rfl) ?_ ?_; rotate_left
          · (intro x hx; go_simp; first | done | with_reducible rfl | (rw [if_pos (by omega)]; try with_reducible rfl) | (rw [if_neg (by omega)]; try with_reducible rfl))
          try simp only [Act.put, List.setIfInBounds_toArray, List.set_cons_zero, List.set_cons_succ]
          refine rg_take (v := ?_) 31 rfl (by kernel_rfl) (by kernel_rfl) (by kernel_rfl) (fun _ _ _ h => h) (by rfl) ?_ ?_; rotate_left
          · (intro x hx; go_simp; first | done | with_reducible rfl | (rw [if_pos (by omega)]; try with_reducible rfl) | (rw [if_neg (by omega)]; try with_reducible rfl))
          try simp only [Act.put, List.setIfInBounds_toArray, List.set_cons_zero, List.set_cons_succ]
          refine rg_take (v := ?_) 32 rfl (by kernel_rfl) (by kernel_rfl) (by kernel_rfl) (fun _ _ _ h => h) (by rfl) ?_ ?_; rotate_left
          · (intro x hx; go_simp; first | done | with_reducible rfl | (rw [if_pos (by omega)]; try with_reducible rfl) | (rw [if_neg (by omega)]; try with_reducible rfl))
          try simp only [Act.put, List.setIfInBounds_toArray, List.set_cons_zero, List.set_cons_succ]
          refine rg_done (by kernel_rfl) ?_
          go_wp2_with fail
          go_ret
          exact ⟨rfl, b3.trans (r7.mono b3.size)⟩
      · have HY := Lib.hid (show hasN (numA x) (numA a) (behN (b + 1)) = false by simpa using hy)
        clear hy
        cases eq
        all_goals
          refine rg_begin (fun _ => False) (by kernel_rfl) ?_
          refine rg_take (v := .agg (netC a (b + 1))) 0 rfl (by kernel_rfl) (by kernel_rfl) (by kernel_rfl) (fun _ _ _ h => h) (by rfl) ?_ ?_
          · (intro x hx; apply run_load_big; (case ho => exact rfl); (case hv => exact rfl); (case hg => exact C8 x hx); (case hu => exact Tryd.underlying29); (case hd => rfl); (case hi => kernel_rfl))
          try simp only [Act.put, List.setIfInBounds_toArray, List.set_cons_zero, List.set_cons_succ]
          refine rg_take (v := .agg (adC x)) 1 rfl (by kernel_rfl) (by kernel_rfl) (by kernel_rfl) (fun _ _ _ h => h) (by rfl) ?_ ?_
          · (intro x hx; apply run_load_big; (case ho => exact rfl); (case hv => exact rfl); (case hg => exact CX x hx); (case hu => exact Tryd.underlying24); (case hd => rfl); (case hi => kernel_rfl))
          try simp only [Act.put, List.setIfInBounds_toArray, List.set_cons_zero, List.set_cons_succ]
          refine rg_step 2 rfl (by kernel_rfl) (by rfl) (fun K hK => ?_)
          go_simp
          refine (has_any _ a (b + 1) x).mono ?_
          rw [HY.out]
          rintro e u1 ⟨rfl, p1⟩
          have r1 := r0.trans (p1.mono r0.size)
          have C7 := Ext.at_ (M := fun _ => False) (w := u1) (below_at r1 N7' (heap_lt N7')) (fun h => h)
          have CX := Ext.at_ (M := fun _ => False) (w := u1) (below_at r1 X3 (heap_lt X3)) (fun h => h)
          have CP := Ext.at_ (M := fun _ => False) (w := u1) (below_at r1 P3 (heap_lt P3)) (fun h => h)
          have C8 := Ext.at_ (M := fun _ => False) (w := u1) (below_at r1 N8' (heap_lt N8')) (fun h => h)
          refine hK.out _ _ (Ext.below_all _ p1) ?_
          clear hK K; try simp only [Act.put, List.setIfInBounds_toArray, List.set_cons_zero, List.set_cons_succ]
          refine rg_take (v := ?_) 3 rfl (by kernel_rfl) (by kernel_rfl) (by kernel_rfl) (fun _ _ _ h => h) (by rfl) ?_ ?_; rotate_left
          · (intro x hx; go_simp; first | done | with_reducible rfl | (rw [if_pos (by omega)]; try with_reducible rfl) | (rw [if_neg (by omega)]; try with_reducible rfl))
          try simp only [Act.put, List.setIfInBounds_toArray, List.set_cons_zero, List.set_cons_succ]
          refine rg_take (v := ?_) 4 rfl (by kernel_rfl) (by kernel_rfl) (by kernel_rfl) (fun _ _ _ h => h) (by rfl) ?_ ?_; rotate_left
          · (intro x hx; go_simp; first | done | with_reducible rfl | (rw [if_pos (by omega)]; try with_reducible rfl) | (rw [if_neg (by omega)]; try with_reducible rfl))
          try simp only [Act.put, List.setIfInBounds_toArray, List.set_cons_zero, List.set_cons_succ]
          refine rg_skip 5 rfl (by kernel_rfl) (by kernel_rfl) (by kernel_rfl) (fun _ _ _ h => h) (by rfl) ?_; simp only [Act.put, List.setIfInBounds_toArray, List.set_cons_zero, List.set_cons_succ]
          refine rg_skip 6 rfl (by kernel_rfl) (by kernel_rfl) (by kernel_rfl) (fun _ _ _ h => h) (by rfl) ?_; simp only [Act.put, List.setIfInBounds_toArray, List.set_cons_zero, List.set_cons_succ]
          refine rg_skip 7 rfl (by kernel_rfl) (by kernel_rfl) (by kernel_rfl) (fun _ _ _ h => h) (by rfl) ?_; simp only [Act.put, List.setIfInBounds_toArray, List.set_cons_zero, List.set_cons_succ]
          refine rg_take (v := ?_) 8 rfl (by kernel_rfl) (by kernel_rfl) (by kernel_rfl) (fun _ _ _ h => h) (by rfl) ?_ ?_; rotate_left
          · (intro x hx; go_simp; first | done | with_reducible rfl | (rw [if_pos (by omega)]; try with_reducible rfl) | (rw [if_neg (by omega)]; try with_reducible rfl))
          try simp only [Act.put, List.setIfInBounds_toArray, List.set_cons_zero, List.set_cons_succ]
          refine rg_take (v := ?_) 9 rfl (by kernel_rfl) (by kernel_rfl) (by kernel_rfl) (fun _ _ _ h => h) (by rfl) ?_ ?_; rotate_left
          · (intro x hx; go_simp; first | done | with_reducible rfl | (rw [if_pos (by omega)]; try with_reducible rfl) | (rw [if_neg (by omega)]; try with_reducible rfl))
          try simp only [Act.put, List.setIfInBounds_toArray, List.set_cons_zero, List.set_cons_succ]
          refine rg_take (v := .agg (netC a b)) 10 rfl (by kernel_rfl) (by kernel_rfl) (by kernel_rfl) (fun _ _ _ h => h) (by rfl) ?_ ?_
          · (intro x hx; apply run_load_big; (case ho => exact rfl); (case hv => exact rfl); (case hg => exact C7 x hx); (case hu => exact Tryd.underlying29); (case hd => rfl); (case hi => kernel_rfl))
          try simp only [Act.put, List.setIfInBounds_toArray, List.set_cons_zero, List.set_cons_succ]
          refine rg_take (v := .agg (netC a b)) 13 rfl (by kernel_rfl) (by kernel_rfl) (by kernel_rfl) (fun _ _ _ h => h) (by rfl) ?_ ?_
          · (intro x hx; apply run_load_big; (case ho => exact rfl); (case hv => exact rfl); (case hg => exact C7 x hx); (case hu => exact Tryd.underlying29); (case hd => rfl); (case hi => kernel_rfl))
          try simp only [Act.put, List.setIfInBounds_toArray, List.set_cons_zero, List.set_cons_succ]
          refine rg_take (v := ?_) 17 rfl (by kernel_rfl) (by kernel_rfl) (by kernel_rfl) (fun _ _ _ h => h) (by rfl) ?_ ?_; rotate_left
          · (intro x hx; go_simp; first | done | with_reducible rfl | (rw [if_pos (by omega)]; try with_reducible rfl) | (rw [if_neg (by omega)]; try with_reducible rfl))
          try simp only [Act.put, List.setIfInBounds_toArray, List.set_cons_zero, List.set_cons_succ]
          refine rg_take (v := ?_) 18 rfl (by kernel_rfl) (by kernel_rfl) (by kernel_rfl) (fun _ _ _ h => h) (by rfl) ?_ ?_; rotate_left
          · (intro x hx; go_simp; first | done | with_reducible rfl | (rw [if_pos (by omega)]; try with_reducible rfl) | (rw [if_neg (by omega)]; try with_reducible rfl))
          try simp only [Act.put, List.setIfInBounds_toArray, List.set_cons_zero, List.set_cons_succ]
          refine rg_take (v := ?_) 19 rfl (by kernel_rfl) (by kernel_rfl) (by kernel_rfl) (fun _ _ _ h => h) (by rfl) ?_ ?_; rotate_left
          · (intro x hx; go_simp; first | done | with_reducible rfl | (rw [if_pos (by omega)]; try with_reducible rfl) | (rw [if_neg (by omega)]; try with_reducible rfl))
          try simp only [Act.put, List.setIfInBounds_toArray, List.set_cons_zero, List.set_cons_succ]
          refine rg_step 11 rfl (by kernel_rfl) (by rfl) (fun K hK => ?_)
          go_simp
          refine (last_any _ a b).mono ?_
          rw [EL.out]
          rintro e u2 ⟨rfl, p2⟩
          have r2 := r1.trans (p2.mono r1.size)
          have C7 := Ext.at_ (M := fun _ => False) (w := u2) (below_at r2 N7' (heap_lt N7')) (fun h => h)
          have CX := Ext.at_ (M := fun _ => False) (w := u2) (below_at r2 X3 (heap_lt X3)) (fun h => h)
          have CP := Ext.at_ (M := fun _ => False) (w := u2) (below_at r2 P3 (heap_lt P3)) (fun h => h)
          have C8 := Ext.at_ (M := fun _ => False) (w := u2) (below_at r2 N8' (heap_lt N8')) (fun h => h)
          refine hK.out _ _ (Ext.below_all _ p2) ?_
          clear hK K; try simp only [Act.put, List.setIfInBounds_toArray, List.set_cons_zero, List.set_cons_succ]
          refine rg_step 12 rfl (by kernel_rfl) (by rfl) (fun K hK => ?_)
          go_simp
          refine (numa_any _ aL).mono ?_
          rw [N2.out]
          rintro e u3 ⟨rfl, p3⟩
          have r3 := r2.trans (p3.mono r2.size)
          have C7 := Ext.at_ (M := fun _ => False) (w := u3) (below_at r3 N7' (heap_lt N7')) (fun h => h)
          have CX := Ext.at_ (M := fun _ => False) (w := u3) (below_at r3 X3 (heap_lt X3)) (fun h => h)
          have CP := Ext.at_ (M := fun _ => False) (w := u3) (below_at r3 P3 (heap_lt P3)) (fun h => h)
          have C8 := Ext.at_ (M := fun _ => False) (w := u3) (below_at r3 N8' (heap_lt N8')) (fun h => h)
          refine hK.out _ _ (Ext.below_all _ p3) ?_
          clear hK K; try simp only [Act.put, List.setIfInBounds_toArray, List.set_cons_zero, List.set_cons_succ]
          refine rg_step 14 rfl (by kernel_rfl) (by rfl) (fun K hK => ?_)
          go_simp
          refine (first_any _ a b).mono ?_
          rw [EF.out]
          rintro e u4 ⟨rfl, p4⟩
          have r4 := r3.trans (p4.mono r3.size)
          have C7 := Ext.at_ (M := fun _ => False) (w := u4) (below_at r4 N7' (heap_lt N7')) (fun h => h)
          have CX := Ext.at_ (M := fun _ => False) (w := u4) (below_at r4 X3 (heap_lt X3)) (fun h => h)
          have CP := Ext.at_ (M := fun _ => False) (w := u4) (below_at r4 P3 (heap_lt P3)) (fun h => h)
          have C8 := Ext.at_ (M := fun _ => False) (w := u4) (below_at r4 N8' (heap_lt N8')) (fun h => h)
          refine hK.out _ _ (Ext.below_all _ p4) ?_
          clear hK K; try simp only [Act.put, List.setIfInBounds_toArray, List.set_cons_zero, List.set_cons_succ]
          refine rg_step 15 rfl (by kernel_rfl) (by rfl) (fun K hK => ?_)
          go_simp
          refine (numa_any _ aF).mono ?_
          rw [N1.out]
          rintro e u5 ⟨rfl, p5⟩
          have r5 := r4.trans (p5.mono r4.size)
          have C7 := Ext.at_ (M := fun _ => False) (w := u5) (below_at r5 N7' (heap_lt N7')) (fun h => h)
          have CX := Ext.at_ (M := fun _ => False) (w := u5) (below_at r5 X3 (heap_lt X3)) (fun h => h)
          have CP := Ext.at_ (M := fun _ => False) (w := u5) (below_at r5 P3 (heap_lt P3)) (fun h => h)
          have C8 := Ext.at_ (M := fun _ => False) (w := u5) (below_at r5 N8' (heap_lt N8')) (fun h => h)
          refine hK.out _ _ (Ext.below_all _ p5) ?_
          clear hK K; try simp only [Act.put, List.setIfInBounds_toArray, List.set_cons_zero, List.set_cons_succ]
          refine rg_take (v := ?_) 16 rfl (by kernel_rfl) (by kernel_rfl) (by kernel_rfl) (fun _ _ _ h => h) (by rfl) ?_ ?_; rotate_left
          · (intro x hx; go_simp; first | done | with_reducible rfl | (rw [if_pos (by omega)]; try with_reducible rfl) | (rw [if_neg (by omega)]; try with_reducible rfl))
          try simp only [Act.put, List.setIfInBounds_toArray, List.set_cons_zero, List.set_cons_succ]
          refine rg_take (v := ?_) 20 rfl (by kernel_rfl) (by kernel_rfl) (by kernel_rfl) (fun _ _ _ h => h) (by rfl) ?_ ?_; rotate_left
          · (intro x hx; go_simp; first | done | with_reducible rfl | (rw [if_pos (by omega)]; try with_reducible rfl) | (rw [if_neg (by omega)]; try with_reducible rfl))
          try simp only [Act.put, List.setIfInBounds_toArray, List.set_cons_zero, List.set_cons_succ]
          refine rg_take (v := ?_) 21 rfl (by kernel_rfl) (by kernel_rfl) (by kernel_rfl) (fun _ _ _ h => h) (by rfl) ?_ ?_; rotate_left
          · (intro x hx; go_simp; first | done | with_reducible rfl | (rw [if_pos (by omega)]; try with_reducible rfl) | (rw [if_neg (by omega)]; try with_reducible rfl))
          try simp only [Act.put, List.setIfInBounds_toArray, List.set_cons_zero, List.set_cons_succ]
          refine rg_take (v := ?_) 22 rfl (by kernel_rfl) (by kernel_rfl) (by kernel_rfl) (fun _ _ _ h => h) (by rfl) ?_ ?_; rotate_left
          · (intro x hx; go_simp; first | done | with_reducible rfl | (rw [if_pos (by omega)]; try with_reducible rfl) | (rw [if_neg (by omega)]; try with_reducible rfl))
          try simp only [Act.put, List.setIfInBounds_toArray, List.set_cons_zero, List.set_cons_succ]
          refine rg_take (v := .agg (adC a)) 23 rfl (by kernel_rfl) (by kernel_rfl) (by kernel_rfl) (fun _ _ _ h => h) (by rfl) ?_ ?_
          · (intro x hx; apply run_load_big; (case ho => exact rfl); (case hv => exact rfl); (case hg => exact CP x hx); (case hu => exact Tryd.underlying24); (case hd => rfl); (case hi => kernel_rfl))
          try simp only [Act.put, List.setIfInBounds_toArray, List.set_cons_zero, List.set_cons_succ]
          refine rg_take (v := ?_) 24 rfl (by kernel_rfl) (by kernel_rfl) (by kernel_rfl) (fun _ _ _ h => h) (by rfl) ?_ ?_; rotate_left
          · (intro x hx; go_simp; first | done | with_reducible rfl | (rw [if_pos (by omega)]; try with_reducible rfl) | (rw [if_neg (by omega)]; try with_reducible rfl))
          try simp only [Act.put, List.setIfInBounds_toArray, List.set_cons_zero, List.set_cons_succ]
          refine rg_take (v := .agg (adC x)) 25 rfl (by kernel_rfl) (by kernel_rfl) (by kernel_rfl) (fun _ _ _ h => h) (by rfl) ?_ ?_
          · (intro x hx; apply run_load_big; (case ho => exact rfl); (case hv => exact rfl); (case hg => exact CX x hx); (case hu => exact Tryd.underlying24); (case hd => rfl); (case hi => kernel_rfl))
          try simp only [Act.put, List.setIfInBounds_toArray, List.set_cons_zero, List.set_cons_succ]
          refine rg_take (v := .agg (adC a)) 27 rfl (by kernel_rfl) (by kernel_rfl) (by kernel_rfl) (fun _ _ _ h => h) (by rfl) ?_ ?_
          · (intro x hx; apply run_load_big; (case ho => exact rfl); (case hv => exact rfl); (case hg => exact CP x hx); (case hu => exact Tryd.underlying24); (case hd => rfl); (case hi => kernel_rfl))
          try simp only [Act.put, List.setIfInBounds_toArray, List.set_cons_zero, List.set_cons_succ]
          refine rg_take (v := .agg (adC x)) 28 rfl (by kernel_rfl) (by kernel_rfl) (by kernel_rfl) (fun _ _ _ h => h) (by rfl) ?_ ?_
          · (intro x hx; apply run_load_big; (case ho => exact rfl); (case hv => exact rfl); (case hg => exact CX x hx); (case hu => exact Tryd.underlying24); (case hd => rfl); (case hi => kernel_rfl))
          try simp only [Act.put, List.setIfInBounds_toArray, List.set_cons_zero, List.set_cons_succ]
          refine rg_take (v := ?_) 29 rfl (by kernel_rfl) (by kernel_rfl) (by kernel_rfl) (fun _ _ _ h => h) (by rfl) ?_ ?_; rotate_left
          · (intro x hx; go_simp; first | done | with_reducible rfl | (rw [if_pos (by omega)]; try with_reducible rfl) | (rw [if_neg (by omega)]; try with_reducible rfl))
          try simp only [Act.put, List.setIfInBounds_toArray, List.set_cons_zero, List.set_cons_succ]
          refine rg_step 26 rfl (by kernel_rfl) (by rfl) (fun K hK => ?_)
          go_simp
          refine (has_any _ a 32 x).mono ?_
          rw [HE.out]
          rintro e u6 ⟨rfl, p6⟩
          have r6 := r5.trans (p6.mono r5.size)
          have C7 := Ext.at_ (M := fun _ => False) (w := u6) (below_at r6 N7' (heap_lt N7')) (fun h => h)
          have CX := Ext.at_ (M := fun _ => False) (w := u6) (below_at r6 X3 (heap_lt X3)) (fun h => h)
          have CP := Ext.at_ (M := fun _ => False) (w := u6) (below_at r6 P3 (heap_lt P3)) (fun h => h)
          have C8 := Ext.at_ (M := fun _ => False) (w := u6) (below_at r6 N8' (heap_lt N8')) (fun h => h)
          refine hK.out _ _ (Ext.below_all _ p6) ?_
          clear hK K; try simp only [Act.put, List.setIfInBounds_toArray, List.set_cons_zero, List.set_cons_succ]
          refine rg_take (v := ?_) 30 rfl (by kernel_rfl) (by kernel_rfl) (by kernel_rfl) (fun _ _ _ h => h) (by rfl) ?_ ?_; rotate_left
          · (intro x hx; go_simp; first | done | with_reducible rfl | (rw [if_pos (by omega)]; try with_reducible rfl) | (rw [if_neg (by omega)]; try with_reducible rfl))
          try simp only [Act.put, List.setIfInBounds_toArray, List.set_cons_zero, List.set_cons_succ]
          refine rg_take (v := ?_) 31 rfl (by kernel_rfl) (by kernel_rfl) (by kernel_rfl) (fun _ _ _ h => h) (by rfl) ?_ ?_; rotate_left
          · (intro x hx; go_simp; first | done | with_reducible rfl | (rw [if_pos (by omega)]; try with_reducible rfl) | (rw [if_neg (by omega)]; try with_reducible rfl))
          try simp only [Act.put, List.setIfInBounds_toArray, List.set_cons_zero, List.set_cons_succ]
          refine rg_take (v := ?_) 32 rfl (by kernel_rfl) (by kernel_rfl) (by kernel_rfl) (fun _ _ _ h => h) (by rfl) ?_ ?_; rotate_left
          · (intro x hx; go_simp; first | done | with_reducible rfl | (rw [if_pos (by omega)]; try with_reducible rfl) | (rw [if_neg (by omega)]; try with_reducible rfl))
          try simp only [Act.put, List.setIfInBounds_toArray, List.set_cons_zero, List.set_cons_succ]
          refine rg_done (by kernel_rfl) ?_
          go_wp2_with fail
          go_ret
          exact ⟨rfl, b3.trans (r6.mono b3.size)⟩

theorem addrMasks_all (w : World) (hp : powIs w) (a : Ad4) (_ : True) (b : Int) (_ : (Lit.int .i64 b).wf = true) (x : Ad4) (_ : True) : Calls Tryd.prog 8 #[adV a, .int .i64 b, adV x] w (TruePost w) := by
  by_cases h : b < 0 ∨ 31 < b
  · exact addrMasks_out w hp a b x h
  · exact addrMasks_in w hp a b x (by omega) (by omega)
end Go.Proofs.YtabmgggmailomaaDoor
