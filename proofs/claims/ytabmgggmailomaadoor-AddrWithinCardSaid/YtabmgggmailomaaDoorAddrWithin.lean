/-
  The walk of the statement AddrWithin.
-/
import Derived.Test.YtabmgggmailomaaDoorAn9
import Derived.Test.YtabmgggmailomaaDoorAn10
namespace Go.Proofs.YtabmgggmailomaaDoor
open Go.RowKit

set_option maxRecDepth 100000 in
set_option maxHeartbeats 8000000 in
theorem addrWithin_all (w : World) (hp : powIs w) (a : Ad4) (_ : True) (b : Int) (_ : (Lit.int .i64 b).wf = true) (x : Ad4) (_ : True) : Calls Tryd.prog 7 #[adV a, .int .i64 b, adV x] w (TruePost w) := by
  obtain ⟨k, hk, hbk⟩ := beh_pow b
  have ha := numA_lt a
  have hx := numA_lt x
  have hm := behN_lt b
  have hF := first_lt (numA a) (behN b) ha
  have hL := last_lt (numA a) (behN b) ha hm
  have w1 := has_within (numA x) (numA a) k hx ha hk
  have w2 := has_within (numA a) (numA a) k ha ha hk
  rw [← hbk] at w1 w2
  have w3 := has_within (firstN (numA a) (behN b)) (numA a) k hF ha hk
  have w4 := has_within (lastN (numA a) (behN b)) (numA a) k hL ha hk
  rw [← hbk] at w3 w4
  have f1 : firstN (numA a) (behN b) ≤ numA a := by rw [hbk]; exact first_le _ k ha hk
  have l1 : numA a ≤ lastN (numA a) (behN b) := by rw [hbk]; exact le_last _ k
  rw [show decide (firstN (numA a) (behN b) ≤ numA a) = true from decide_eq_true f1, show decide (numA a ≤ lastN (numA a) (behN b)) = true from decide_eq_true l1] at w2
  rw [show decide (firstN (numA a) (behN b) ≤ firstN (numA a) (behN b)) = true from decide_eq_true (Nat.le_refl _), show decide (firstN (numA a) (behN b) ≤ lastN (numA a) (behN b)) = true from decide_eq_true (by omega)] at w3
  rw [show decide (firstN (numA a) (behN b) ≤ lastN (numA a) (behN b)) = true from decide_eq_true (by omega), show decide (lastN (numA a) (behN b) ≤ lastN (numA a) (behN b)) = true from decide_eq_true (Nat.le_refl _)] at w4
  have nF := numA_of4 _ hF
  have nL := numA_of4 _ hL
  obtain ⟨aF, eF⟩ : ∃ aF, of4 ((firstN (numA a) (behN b) : Nat) : Int) = aF := ⟨_, rfl⟩
  obtain ⟨aL, eL⟩ : ∃ aL, of4 ((lastN (numA a) (behN b) : Nat) : Int) = aL := ⟨_, rfl⟩
  rw [eF] at nF
  rw [eL] at nL
  rw [← nF] at w1 w3
  rw [← nL] at w1 w4
  have EF := Lib.hid eF; have EL := Lib.hid eL; have W1 := Lib.hid w1; have W2 := Lib.hid w2; have W3 := Lib.hid w3; have W4 := Lib.hid w4
  clear ha hx hm hF hL w1 w2 w3 w4 f1 l1 nF nL eF eL hbk hk
  obtain ⟨nx, hnx⟩ : ∃ n, numA x = n := ⟨_, rfl⟩
  obtain ⟨nf, hnf⟩ : ∃ n, numA aF = n := ⟨_, rfl⟩
  obtain ⟨nl, hnl⟩ : ∃ n, numA aL = n := ⟨_, rfl⟩
  have NX := Lib.hid hnx; have NF := Lib.hid hnf; have NL := Lib.hid hnl
  have P0 : ((w.alloc (.cells (adC a) 24)).alloc (.cells (adC x) 24)).heap[w.heap.size]? = some (.cells (adC a) 24 (0, 0)) := heap_alloc_of (heap_alloc_new w _)
  have X0 : ((w.alloc (.cells (adC a) 24)).alloc (.cells (adC x) 24)).heap[w.heap.size + 1]? = some (.cells (adC x) 24 (0, 0)) := heap_alloc_at (by simp)
  have b0 : Below w.heap.size w ((w.alloc (.cells (adC a) 24)).alloc (.cells (adC x) 24)) := ((Below.refl _ w).alloc (Nat.le_refl _) _).alloc (by simp) _
  clear hnx hnf hnl
  go_enter Tryd.func7, Tryd.ntmps7
  go_upto_region 1 with fail
  generalize (w.alloc (.cells (adC a) 24)).alloc (.cells (adC x) 24) = w0 at P0 X0 b0 ⊢
  obtain ⟨g, hg⟩ : ∃ g, w.heap.size = g := ⟨_, rfl⟩
  rw [hg] at P0 X0 ⊢
  have HG := Lib.hid hg
  clear hg
  go_wp2_with fail
  refine (awake3_any w0 (hp.below b0)).mono ?_
  rintro e w1 ⟨rfl, q1⟩
  have P1 := below_at q1 P0 (heap_lt P0)
  have X1 := below_at q1 X0 (heap_lt X0)
  have b1 := b0.trans (q1.mono b0.size)
  clear P0 X0 b0 q1
  go_upto_region 4 with (first
    | ((with_reducible apply at_load_row 24); (case hx => exact rfl); (case hg => exact P1); (case hu => exact Tryd.underlying24); (case hd => rfl); (case hi => kernel_rfl))
    | ((with_reducible apply at_store_new 29); (case hx => exact rfl); (case hy => exact rfl); (case hg => first | rfl | simp); (case hi => kernel_rfl); (case hold => rfl); (case h1 => kernel_rfl)))
  have q2 : Below w1.heap.size w1 (w1.alloc (.cells (netC a b) 29)) := (Below.refl _ w1).alloc (Nat.le_refl _) _
  have P2 := below_at q2 P1 (heap_lt P1)
  have X2 := below_at q2 X1 (heap_lt X1)
  have N2 := heap_alloc_new w1 (.cells (netC a b) 29)
  have b2 := b1.trans (q2.mono b1.size)
  obtain ⟨gn, hgn⟩ : ∃ gn, w1.heap.size = gn := ⟨_, rfl⟩
  rw [hgn] at N2 ⊢
  generalize w1.alloc (.cells (netC a b) 29) = w2 at P2 X2 N2 b2 ⊢
  clear hgn q2 b1 P1 X1
  go_wp2_with ((with_reducible apply at_load_row 24); (case hx => exact rfl); (case hg => exact X2); (case hu => exact Tryd.underlying24); (case hd => rfl); (case hi => kernel_rfl))
  refine (numa_any w2 x).mono ?_
  rw [NX.out]
  rintro e w3 ⟨rfl, q3⟩
  have P3 := below_at q3 P2 (heap_lt P2)
  have X3 := below_at q3 X2 (heap_lt X2)
  have N3 := below_at q3 N2 (heap_lt N2)
  have b3 := b2.trans (q3.mono b2.size)
  clear P2 X2 N2 b2 q3
  go_upto_region 5 with fail
  have r0 : Below w3.heap.size w3 w3.drew := (Below.refl _ _).drew
  have CN := Ext.at_ (M := fun _ => False) (w := w3.drew) N3 (fun h => h)
  have CX := Ext.at_ (M := fun _ => False) (w := w3.drew) X3 (fun h => h)
  have h1 := W1.out
  rw [NX.out, NF.out, NL.out] at h1
  have W5 := Lib.hid h1
  clear h1
  by_cases c1 : nf ≤ nx
  · have d1 : decide ((nf : Int) ≤ (nx : Int)) = true := decide_eq_true (by omega)
    have d2 : decide (nf ≤ nx) = true := decide_eq_true c1
    by_cases c2 : nx ≤ nl
    · have d3 : decide ((nx : Int) ≤ (nl : Int)) = true := decide_eq_true (by omega)
      have d4 : decide (nx ≤ nl) = true := decide_eq_true c2
      have HB := Lib.hid (show hasN (numA x) (numA a) (behN b) = true by rw [NX.out, W5.out, d2, d4]; rfl)
      clear c1 c2
      refine rg_begin (fun _ => False) (by kernel_rfl) ?_
      refine rg_take (v := .agg (netC a b)) 0 rfl (by kernel_rfl) (by kernel_rfl) (by kernel_rfl) (fun _ _ _ h => h) (by rfl) ?_ ?_
      · (intro x hx; apply run_load_big; (case ho => exact rfl); (case hv => exact rfl); (case hg => exact CN x hx); (case hu => exact Tryd.underlying29); (case hd => rfl); (case hi => kernel_rfl))
      try simp only [Act.put, List.setIfInBounds_toArray, List.set_cons_zero, List.set_cons_succ]
      refine rg_take (v := .agg (adC x)) 1 rfl (by kernel_rfl) (by kernel_rfl) (by kernel_rfl) (fun _ _ _ h => h) (by rfl) ?_ ?_
      · (intro x hx; apply run_load_big; (case ho => exact rfl); (case hv => exact rfl); (case hg => exact CX x hx); (case hu => exact Tryd.underlying24); (case hd => rfl); (case hi => kernel_rfl))
      try simp only [Act.put, List.setIfInBounds_toArray, List.set_cons_zero, List.set_cons_succ]
      refine rg_take (v := ?_) 3 rfl (by kernel_rfl) (by kernel_rfl) (by kernel_rfl) (fun _ _ _ h => h) (by rfl) ?_ ?_; rotate_left
      · (intro x hx; go_simp; first | done | with_reducible rfl | (rw [if_pos (by omega)]; try with_reducible rfl) | (rw [if_neg (by omega)]; try with_reducible rfl))
      try simp only [Act.put, List.setIfInBounds_toArray, List.set_cons_zero, List.set_cons_succ]
      refine rg_take (v := .agg (netC a b)) 4 rfl (by kernel_rfl) (by kernel_rfl) (by kernel_rfl) (fun _ _ _ h => h) (by rfl) ?_ ?_
      · (intro x hx; apply run_load_big; (case ho => exact rfl); (case hv => exact rfl); (case hg => exact CN x hx); (case hu => exact Tryd.underlying29); (case hd => rfl); (case hi => kernel_rfl))
      try simp only [Act.put, List.setIfInBounds_toArray, List.set_cons_zero, List.set_cons_succ]
      refine rg_step 2 rfl (by kernel_rfl) (by rfl) (fun K hK => ?_)
      go_simp
      refine (has_any _ a b x).mono ?_
      rw [HB.out]
      rintro e u1 ⟨rfl, p1⟩
      have r1 := r0.trans (p1.mono r0.size)
      have CN := Ext.at_ (M := fun _ => False) (w := u1) (below_at r1 N3 (heap_lt N3)) (fun h => h)
      have CP := Ext.at_ (M := fun _ => False) (w := u1) (below_at r1 P3 (heap_lt P3)) (fun h => h)
      refine hK.out _ _ (Ext.below_all _ p1) ?_
      clear hK K; try simp only [Act.put, List.setIfInBounds_toArray, List.set_cons_zero, List.set_cons_succ]
      refine rg_step 5 rfl (by kernel_rfl) (by rfl) (fun K hK => ?_)
      go_simp
      refine (first_any _ a b).mono ?_
      rw [EF.out]
      rintro e u2 ⟨rfl, p2⟩
      have r2 := r1.trans (p2.mono r1.size)
      have CN := Ext.at_ (M := fun _ => False) (w := u2) (below_at r2 N3 (heap_lt N3)) (fun h => h)
      have CP := Ext.at_ (M := fun _ => False) (w := u2) (below_at r2 P3 (heap_lt P3)) (fun h => h)
      refine hK.out _ _ (Ext.below_all _ p2) ?_
      clear hK K; try simp only [Act.put, List.setIfInBounds_toArray, List.set_cons_zero, List.set_cons_succ]
      refine rg_step 6 rfl (by kernel_rfl) (by rfl) (fun K hK => ?_)
      go_simp
      refine (numa_any _ aF).mono ?_
      rw [NF.out]
      rintro e u3 ⟨rfl, p3⟩
      have r3 := r2.trans (p3.mono r2.size)
      have CN := Ext.at_ (M := fun _ => False) (w := u3) (below_at r3 N3 (heap_lt N3)) (fun h => h)
      have CP := Ext.at_ (M := fun _ => False) (w := u3) (below_at r3 P3 (heap_lt P3)) (fun h => h)
      refine hK.out _ _ (Ext.below_all _ p3) ?_
      clear hK K; try simp only [Act.put, List.setIfInBounds_toArray, List.set_cons_zero, List.set_cons_succ]
      refine rg_take (v := ?_) 7 rfl (by kernel_rfl) (by kernel_rfl) (by kernel_rfl) (fun _ _ _ h => h) (by rfl) ?_ ?_; rotate_left
      · (intro x hx; go_simp; first | done | with_reducible rfl | (rw [if_pos (by omega)]; try with_reducible rfl) | (rw [if_neg (by omega)]; try with_reducible rfl))
      try simp only [Act.put, List.setIfInBounds_toArray, List.set_cons_zero, List.set_cons_succ]
      refine rg_take (v := ?_) 8 rfl (by kernel_rfl) (by kernel_rfl) (by kernel_rfl) (fun _ _ _ h => h) (by rfl) ?_ ?_; rotate_left
      · (intro x hx; go_simp; first | done | with_reducible rfl | (rw [if_pos (by omega)]; try with_reducible rfl) | (rw [if_neg (by omega)]; try with_reducible rfl))
      try simp only [Act.put, List.setIfInBounds_toArray, List.set_cons_zero, List.set_cons_succ]
      refine rg_take (v := ?_) 9 rfl (by kernel_rfl) (by kernel_rfl) (by kernel_rfl) (fun _ _ _ h => h) (by rfl) ?_ ?_; rotate_left
      · (intro x hx; go_simp; first | done | with_reducible rfl | (rw [if_pos (by omega)]; try with_reducible rfl) | (rw [if_neg (by omega)]; try with_reducible rfl))
      try simp only [Act.put, List.setIfInBounds_toArray, List.set_cons_zero, List.set_cons_succ]
      refine rg_take (v := .agg (netC a b)) 10 rfl (by kernel_rfl) (by kernel_rfl) (by kernel_rfl) (fun _ _ _ h => h) (by rfl) ?_ ?_
      · (intro x hx; apply run_load_big; (case ho => exact rfl); (case hv => exact rfl); (case hg => exact CN x hx); (case hu => exact Tryd.underlying29); (case hd => rfl); (case hi => kernel_rfl))
      try simp only [Act.put, List.setIfInBounds_toArray, List.set_cons_zero, List.set_cons_succ]
      refine rg_step 11 rfl (by kernel_rfl) (by rfl) (fun K hK => ?_)
      go_simp
      refine (last_any _ a b).mono ?_
      rw [EL.out]
      rintro e u4 ⟨rfl, p4⟩
      have r4 := r3.trans (p4.mono r3.size)
      have CN := Ext.at_ (M := fun _ => False) (w := u4) (below_at r4 N3 (heap_lt N3)) (fun h => h)
      have CP := Ext.at_ (M := fun _ => False) (w := u4) (below_at r4 P3 (heap_lt P3)) (fun h => h)
      refine hK.out _ _ (Ext.below_all _ p4) ?_
      clear hK K; try simp only [Act.put, List.setIfInBounds_toArray, List.set_cons_zero, List.set_cons_succ]
      refine rg_step 12 rfl (by kernel_rfl) (by rfl) (fun K hK => ?_)
      go_simp
      refine (numa_any _ aL).mono ?_
      rw [NL.out]
      rintro e u5 ⟨rfl, p5⟩
      have r5 := r4.trans (p5.mono r4.size)
      have CN := Ext.at_ (M := fun _ => False) (w := u5) (below_at r5 N3 (heap_lt N3)) (fun h => h)
      have CP := Ext.at_ (M := fun _ => False) (w := u5) (below_at r5 P3 (heap_lt P3)) (fun h => h)
      refine hK.out _ _ (Ext.below_all _ p5) ?_
      clear hK K; try simp only [Act.put, List.setIfInBounds_toArray, List.set_cons_zero, List.set_cons_succ]
      refine rg_take (v := ?_) 13 rfl (by kernel_rfl) (by kernel_rfl) (by kernel_rfl) (fun _ _ _ h => h) (by rfl) ?_ ?_; rotate_left
      · (intro x hx; go_simp; first | done | with_reducible rfl | (rw [if_pos (by omega)]; try with_reducible rfl) | (rw [if_neg (by omega)]; try with_reducible rfl))
      try simp only [Act.put, List.setIfInBounds_toArray, List.set_cons_zero, List.set_cons_succ]
      refine rg_take (v := ?_) 14 rfl (by kernel_rfl) (by kernel_rfl) (by kernel_rfl) (fun _ _ _ h => h) (by rfl) ?_ ?_; rotate_left
      · (intro x hx; go_simp; first | done | with_reducible rfl | (rw [if_pos (by omega)]; try with_reducible rfl) | (rw [if_neg (by omega)]; try with_reducible rfl))
      try simp only [Act.put, List.setIfInBounds_toArray, List.set_cons_zero, List.set_cons_succ]
      refine rg_take (v := ?_) 15 rfl (by kernel_rfl) (by kernel_rfl) (by kernel_rfl) (fun _ _ _ h => h) (by rfl) ?_ ?_; rotate_left
      · (intro x hx; go_simp; first | done | with_reducible rfl | (rw [if_pos (by omega)]; try with_reducible rfl) | (rw [if_neg (by omega)]; try with_reducible rfl))
      try simp only [Act.put, List.setIfInBounds_toArray, List.set_cons_zero, List.set_cons_succ]
      refine rg_take (v := ?_) 16 rfl (by kernel_rfl) (by kernel_rfl) (by kernel_rfl) (fun _ _ _ h => h) (by rfl) ?_ ?_; rotate_left
      · (intro x hx; go_simp; first | done | with_reducible rfl | (rw [if_pos (by omega)]; try with_reducible rfl) | (rw [if_neg (by omega)]; try with_reducible rfl))
      try simp only [Act.put, List.setIfInBounds_toArray, List.set_cons_zero, List.set_cons_succ]
      refine rg_take (v := .agg (netC a b)) 17 rfl (by kernel_rfl) (by kernel_rfl) (by kernel_rfl) (fun _ _ _ h => h) (by rfl) ?_ ?_
      · (intro x hx; apply run_load_big; (case ho => exact rfl); (case hv => exact rfl); (case hg => exact CN x hx); (case hu => exact Tryd.underlying29); (case hd => rfl); (case hi => kernel_rfl))
      try simp only [Act.put, List.setIfInBounds_toArray, List.set_cons_zero, List.set_cons_succ]
      refine rg_take (v := .agg (adC a)) 18 rfl (by kernel_rfl) (by kernel_rfl) (by kernel_rfl) (fun _ _ _ h => h) (by rfl) ?_ ?_
      · (intro x hx; apply run_load_big; (case ho => exact rfl); (case hv => exact rfl); (case hg => exact CP x hx); (case hu => exact Tryd.underlying24); (case hd => rfl); (case hi => kernel_rfl))
      try simp only [Act.put, List.setIfInBounds_toArray, List.set_cons_zero, List.set_cons_succ]
      refine rg_step 19 rfl (by kernel_rfl) (by rfl) (fun K hK => ?_)
      go_simp
      refine (has_any _ a b a).mono ?_
      rw [W2.out]
      rintro e u6 ⟨rfl, p6⟩
      have r6 := r5.trans (p6.mono r5.size)
      have CN := Ext.at_ (M := fun _ => False) (w := u6) (below_at r6 N3 (heap_lt N3)) (fun h => h)
      have CP := Ext.at_ (M := fun _ => False) (w := u6) (below_at r6 P3 (heap_lt P3)) (fun h => h)
      refine hK.out _ _ (Ext.below_all _ p6) ?_
      clear hK K; try simp only [Act.put, List.setIfInBounds_toArray, List.set_cons_zero, List.set_cons_succ]
      refine rg_take (v := ?_) 20 rfl (by kernel_rfl) (by kernel_rfl) (by kernel_rfl) (fun _ _ _ h => h) (by rfl) ?_ ?_; rotate_left
      · (intro x hx; go_simp; first | done | with_reducible rfl | (rw [if_pos (by omega)]; try with_reducible rfl) | (rw [if_neg (by omega)]; try with_reducible rfl))
      try simp only [Act.put, List.setIfInBounds_toArray, List.set_cons_zero, List.set_cons_succ]
      refine rg_take (v := ?_) 21 rfl (by kernel_rfl) (by kernel_rfl) (by kernel_rfl) (fun _ _ _ h => h) (by rfl) ?_ ?_; rotate_left
      · (intro x hx; go_simp; first | done | with_reducible rfl | (rw [if_pos (by omega)]; try with_reducible rfl) | (rw [if_neg (by omega)]; try with_reducible rfl))
      try simp only [Act.put, List.setIfInBounds_toArray, List.set_cons_zero, List.set_cons_succ]
      refine rg_take (v := .agg (netC a b)) 22 rfl (by kernel_rfl) (by kernel_rfl) (by kernel_rfl) (fun _ _ _ h => h) (by rfl) ?_ ?_
      · (intro x hx; apply run_load_big; (case ho => exact rfl); (case hv => exact rfl); (case hg => exact CN x hx); (case hu => exact Tryd.underlying29); (case hd => rfl); (case hi => kernel_rfl))
      try simp only [Act.put, List.setIfInBounds_toArray, List.set_cons_zero, List.set_cons_succ]
      refine rg_take (v := .agg (netC a b)) 23 rfl (by kernel_rfl) (by kernel_rfl) (by kernel_rfl) (fun _ _ _ h => h) (by rfl) ?_ ?_
      · (intro x hx; apply run_load_big; (case ho => exact rfl); (case hv => exact rfl); (case hg => exact CN x hx); (case hu => exact Tryd.underlying29); (case hd => rfl); (case hi => kernel_rfl))
      try simp only [Act.put, List.setIfInBounds_toArray, List.set_cons_zero, List.set_cons_succ]
      refine rg_step 24 rfl (by kernel_rfl) (by rfl) (fun K hK => ?_)
      go_simp
      refine (first_any _ a b).mono ?_
      rw [EF.out]
      rintro e u7 ⟨rfl, p7⟩
      have r7 := r6.trans (p7.mono r6.size)
      have CN := Ext.at_ (M := fun _ => False) (w := u7) (below_at r7 N3 (heap_lt N3)) (fun h => h)
      have CP := Ext.at_ (M := fun _ => False) (w := u7) (below_at r7 P3 (heap_lt P3)) (fun h => h)
      refine hK.out _ _ (Ext.below_all _ p7) ?_
      clear hK K; try simp only [Act.put, List.setIfInBounds_toArray, List.set_cons_zero, List.set_cons_succ]
      refine rg_step 25 rfl (by kernel_rfl) (by rfl) (fun K hK => ?_)
      go_simp
      refine (has_any _ a b aF).mono ?_
      rw [W3.out]
      rintro e u8 ⟨rfl, p8⟩
      have r8 := r7.trans (p8.mono r7.size)
      have CN := Ext.at_ (M := fun _ => False) (w := u8) (below_at r8 N3 (heap_lt N3)) (fun h => h)
      have CP := Ext.at_ (M := fun _ => False) (w := u8) (below_at r8 P3 (heap_lt P3)) (fun h => h)
      refine hK.out _ _ (Ext.below_all _ p8) ?_
      clear hK K; try simp only [Act.put, List.setIfInBounds_toArray, List.set_cons_zero, List.set_cons_succ]
      refine rg_take (v := ?_) 26 rfl (by kernel_rfl) (by kernel_rfl) (by kernel_rfl) (fun _ _ _ h => h) (by rfl) ?_ ?_; rotate_left
      · (intro x hx; go_simp; first | done | with_reducible rfl | (rw [if_pos (by omega)]; try with_reducible rfl) | (rw [if_neg (by omega)]; try with_reducible rfl))
      try simp only [Act.put, List.setIfInBounds_toArray, List.set_cons_zero, List.set_cons_succ]
      refine rg_take (v := ?_) 27 rfl (by kernel_rfl) (by kernel_rfl) (by kernel_rfl) (fun _ _ _ h => h) (by rfl) ?_ ?_; rotate_left
      · (intro x hx; go_simp; first | done | with_reducible rfl | (rw [if_pos (by omega)]; try with_reducible rfl) | (rw [if_neg (by omega)]; try with_reducible rfl))
      try simp only [Act.put, List.setIfInBounds_toArray, List.set_cons_zero, List.set_cons_succ]
      refine rg_take (v := .agg (netC a b)) 28 rfl (by kernel_rfl) (by kernel_rfl) (by kernel_rfl) (fun _ _ _ h => h) (by rfl) ?_ ?_
      · (intro x hx; apply run_load_big; (case ho => exact rfl); (case hv => exact rfl); (case hg => exact CN x hx); (case hu => exact Tryd.underlying29); (case hd => rfl); (case hi => kernel_rfl))
      try simp only [Act.put, List.setIfInBounds_toArray, List.set_cons_zero, List.set_cons_succ]
      refine rg_take (v := .agg (netC a b)) 29 rfl (by kernel_rfl) (by kernel_rfl) (by kernel_rfl) (fun _ _ _ h => h) (by rfl) ?_ ?_
      · (intro x hx; apply run_load_big; (case ho => exact rfl); (case hv => exact rfl); (case hg => exact CN x hx); (case hu => exact Tryd.underlying29); (case hd => rfl); (case hi => kernel_rfl))
      try simp only [Act.put, List.setIfInBounds_toArray, List.set_cons_zero, List.set_cons_succ]
      refine rg_step 30 rfl (by kernel_rfl) (by rfl) (fun K hK => ?_)
      go_simp
      refine (last_any _ a b).mono ?_
      rw [EL.out]
      rintro e u9 ⟨rfl, p9⟩
      have r9 := r8.trans (p9.mono r8.size)
      have CN := Ext.at_ (M := fun _ => False) (w := u9) (below_at r9 N3 (heap_lt N3)) (fun h => h)
      have CP := Ext.at_ (M := fun _ => False) (w := u9) (below_at r9 P3 (heap_lt P3)) (fun h => h)
      refine hK.out _ _ (Ext.below_all _ p9) ?_
      clear hK K; try simp only [Act.put, List.setIfInBounds_toArray, List.set_cons_zero, List.set_cons_succ]
      refine rg_step 31 rfl (by kernel_rfl) (by rfl) (fun K hK => ?_)
      go_simp
      refine (has_any _ a b aL).mono ?_
      rw [W4.out]
      rintro e u10 ⟨rfl, p10⟩
      have r10 := r9.trans (p10.mono r9.size)
      have CN := Ext.at_ (M := fun _ => False) (w := u10) (below_at r10 N3 (heap_lt N3)) (fun h => h)
      have CP := Ext.at_ (M := fun _ => False) (w := u10) (below_at r10 P3 (heap_lt P3)) (fun h => h)
      refine hK.out _ _ (Ext.below_all _ p10) ?_
      clear hK K; try simp only [Act.put, List.setIfInBounds_toArray, List.set_cons_zero, List.set_cons_succ]
      refine rg_take (v := ?_) 32 rfl (by kernel_rfl) (by kernel_rfl) (by kernel_rfl) (fun _ _ _ h => h) (by rfl) ?_ ?_; rotate_left
      · (intro x hx; go_simp; first | done | with_reducible rfl | (rw [if_pos (by omega)]; try with_reducible rfl) | (rw [if_neg (by omega)]; try with_reducible rfl))
      try simp only [Act.put, List.setIfInBounds_toArray, List.set_cons_zero, List.set_cons_succ]
      refine rg_take (v := ?_) 33 rfl (by kernel_rfl) (by kernel_rfl) (by kernel_rfl) (fun _ _ _ h => h) (by rfl) ?_ ?_; rotate_left
      · (intro x hx; go_simp; first | done | with_reducible rfl | (rw [if_pos (by omega)]; try with_reducible rfl) | (rw [if_neg (by omega)]; try with_reducible rfl))
      try simp only [Act.put, List.setIfInBounds_toArray, List.set_cons_zero, List.set_cons_succ]
      refine rg_done (by kernel_rfl) ?_
      go_wp2_with fail
      go_ret
      exact ⟨rfl, b3.trans (r10.mono b3.size)⟩
    · have d3 : decide ((nx : Int) ≤ (nl : Int)) = false := decide_eq_false (by omega)
      have d4 : decide (nx ≤ nl) = false := decide_eq_false c2
      have HB := Lib.hid (show hasN (numA x) (numA a) (behN b) = false by rw [NX.out, W5.out, d2, d4]; rfl)
      clear c1 c2
      refine rg_begin (fun _ => False) (by kernel_rfl) ?_
      refine rg_take (v := .agg (netC a b)) 0 rfl (by kernel_rfl) (by kernel_rfl) (by kernel_rfl) (fun _ _ _ h => h) (by rfl) ?_ ?_
      · (intro x hx; apply run_load_big; (case ho => exact rfl); (case hv => exact rfl); (case hg => exact CN x hx); (case hu => exact Tryd.underlying29); (case hd => rfl); (case hi => kernel_rfl))
      try simp only [Act.put, List.setIfInBounds_toArray, List.set_cons_zero, List.set_cons_succ]
      refine rg_take (v := .agg (adC x)) 1 rfl (by kernel_rfl) (by kernel_rfl) (by kernel_rfl) (fun _ _ _ h => h) (by rfl) ?_ ?_
      · (intro x hx; apply run_load_big; (case ho => exact rfl); (case hv => exact rfl); (case hg => exact CX x hx); (case hu => exact Tryd.underlying24); (case hd => rfl); (case hi => kernel_rfl))
      try simp only [Act.put, List.setIfInBounds_toArray, List.set_cons_zero, List.set_cons_succ]
      refine rg_take (v := ?_) 3 rfl (by kernel_rfl) (by kernel_rfl) (by kernel_rfl) (fun _ _ _ h => h) (by rfl) ?_ ?_; rotate_left
      · (intro x hx; go_simp; first | done | with_reducible rfl | (rw [if_pos (by omega)]; try with_reducible rfl) | (rw [if_neg (by omega)]; try with_reducible rfl))
      try simp only [Act.put, List.setIfInBounds_toArray, List.set_cons_zero, List.set_cons_succ]
      refine rg_take (v := .agg (netC a b)) 4 rfl (by kernel_rfl) (by kernel_rfl) (by kernel_rfl) (fun _ _ _ h => h) (by rfl) ?_ ?_
      · (intro x hx; apply run_load_big; (case ho => exact rfl); (case hv => exact rfl); (case hg => exact CN x hx); (case hu => exact Tryd.underlying29); (case hd => rfl); (case hi => kernel_rfl))
      try simp only [Act.put, List.setIfInBounds_toArray, List.set_cons_zero, List.set_cons_succ]
      refine rg_step 2 rfl (by kernel_rfl) (by rfl) (fun K hK => ?_)
      go_simp
      refine (has_any _ a b x).mono ?_
      rw [HB.out]
      rintro e u1 ⟨rfl, p1⟩
      have r1 := r0.trans (p1.mono r0.size)
      have CN := Ext.at_ (M := fun _ => False) (w := u1) (below_at r1 N3 (heap_lt N3)) (fun h => h)
      have CP := Ext.at_ (M := fun _ => False) (w := u1) (below_at r1 P3 (heap_lt P3)) (fun h => h)
      refine hK.out _ _ (Ext.below_all _ p1) ?_
      clear hK K; try simp only [Act.put, List.setIfInBounds_toArray, List.set_cons_zero, List.set_cons_succ]
      refine rg_step 5 rfl (by kernel_rfl) (by rfl) (fun K hK => ?_)
      go_simp
      refine (first_any _ a b).mono ?_
      rw [EF.out]
      rintro e u2 ⟨rfl, p2⟩
      have r2 := r1.trans (p2.mono r1.size)
      have CN := Ext.at_ (M := fun _ => False) (w := u2) (below_at r2 N3 (heap_lt N3)) (fun h => h)
      have CP := Ext.at_ (M := fun _ => False) (w := u2) (below_at r2 P3 (heap_lt P3)) (fun h => h)
      refine hK.out _ _ (Ext.below_all _ p2) ?_
      clear hK K; try simp only [Act.put, List.setIfInBounds_toArray, List.set_cons_zero, List.set_cons_succ]
      refine rg_step 6 rfl (by kernel_rfl) (by rfl) (fun K hK => ?_)
      go_simp
      refine (numa_any _ aF).mono ?_
      rw [NF.out]
      rintro e u3 ⟨rfl, p3⟩
      have r3 := r2.trans (p3.mono r2.size)
      have CN := Ext.at_ (M := fun _ => False) (w := u3) (below_at r3 N3 (heap_lt N3)) (fun h => h)
      have CP := Ext.at_ (M := fun _ => False) (w := u3) (below_at r3 P3 (heap_lt P3)) (fun h => h)
      refine hK.out _ _ (Ext.below_all _ p3) ?_
      clear hK K; try simp only [Act.put, List.setIfInBounds_toArray, List.set_cons_zero, List.set_cons_succ]
      refine rg_take (v := ?_) 7 rfl (by kernel_rfl) (by kernel_rfl) (by kernel_rfl) (fun _ _ _ h => h) (by rfl) ?_ ?_; rotate_left
      · (intro x hx; go_simp; first | done | with_reducible rfl | (rw [if_pos (by omega)]; try with_reducible rfl) | (rw [if_neg (by omega)]; try with_reducible rfl))
      try simp only [Act.put, List.setIfInBounds_toArray, List.set_cons_zero, List.set_cons_succ]
      refine rg_take (v := ?_) 8 rfl (by kernel_rfl) (by kernel_rfl) (by kernel_rfl) (fun _ _ _ h => h) (by rfl) ?_ ?_; rotate_left
      · (intro x hx; go_simp; first | done | with_reducible rfl | (rw [if_pos (by omega)]; try with_reducible rfl) | (rw [if_neg (by omega)]; try with_reducible rfl))
      try simp only [Act.put, List.setIfInBounds_toArray, List.set_cons_zero, List.set_cons_succ]
      refine rg_take (v := ?_) 9 rfl (by kernel_rfl) (by kernel_rfl) (by kernel_rfl) (fun _ _ _ h => h) (by rfl) ?_ ?_; rotate_left
      · (intro x hx; go_simp; first | done | with_reducible rfl | (rw [if_pos (by omega)]; try with_reducible rfl) | (rw [if_neg (by omega)]; try with_reducible rfl))
      try simp only [Act.put, List.setIfInBounds_toArray, List.set_cons_zero, List.set_cons_succ]
      refine rg_take (v := .agg (netC a b)) 10 rfl (by kernel_rfl) (by kernel_rfl) (by kernel_rfl) (fun _ _ _ h => h) (by rfl) ?_ ?_
      · (intro x hx; apply run_load_big; (case ho => exact rfl); (case hv => exact rfl); (case hg => exact CN x hx); (case hu => exact Tryd.underlying29); (case hd => rfl); (case hi => kernel_rfl))
      try simp only [Act.put, List.setIfInBounds_toArray, List.set_cons_zero, List.set_cons_succ]
      refine rg_step 11 rfl (by kernel_rfl) (by rfl) (fun K hK => ?_)
      go_simp
      refine (last_any _ a b).mono ?_
      rw [EL.out]
      rintro e u4 ⟨rfl, p4⟩
      have r4 := r3.trans (p4.mono r3.size)
      have CN := Ext.at_ (M := fun _ => False) (w := u4) (below_at r4 N3 (heap_lt N3)) (fun h => h)
      have CP := Ext.at_ (M := fun _ => False) (w := u4) (below_at r4 P3 (heap_lt P3)) (fun h => h)
      refine hK.out _ _ (Ext.below_all _ p4) ?_
      clear hK K; try simp only [Act.put, List.setIfInBounds_toArray, List.set_cons_zero, List.set_cons_succ]
      refine rg_step 12 rfl (by kernel_rfl) (by rfl) (fun K hK => ?_)
      go_simp
      refine (numa_any _ aL).mono ?_
      rw [NL.out]
      rintro e u5 ⟨rfl, p5⟩
      have r5 := r4.trans (p5.mono r4.size)
      have CN := Ext.at_ (M := fun _ => False) (w := u5) (below_at r5 N3 (heap_lt N3)) (fun h => h)
      have CP := Ext.at_ (M := fun _ => False) (w := u5) (below_at r5 P3 (heap_lt P3)) (fun h => h)
      refine hK.out _ _ (Ext.below_all _ p5) ?_
      clear hK K; try simp only [Act.put, List.setIfInBounds_toArray, List.set_cons_zero, List.set_cons_succ]
      refine rg_take (v := ?_) 13 rfl (by kernel_rfl) (by kernel_rfl) (by kernel_rfl) (fun _ _ _ h => h) (by rfl) ?_ ?_; rotate_left
      · (intro x hx; go_simp; first | done | with_reducible rfl | (rw [if_pos (by omega)]; try with_reducible rfl) | (rw [if_neg (by omega)]; try with_reducible rfl))
      try simp only [Act.put, List.setIfInBounds_toArray, List.set_cons_zero, List.set_cons_succ]
      refine rg_take (v := ?_) 14 rfl (by kernel_rfl) (by kernel_rfl) (by kernel_rfl) (fun _ _ _ h => h) (by rfl) ?_ ?_; rotate_left
      · (intro x hx; go_simp; first | done | with_reducible rfl | (rw [if_pos (by omega)]; try with_reducible rfl) | (rw [if_neg (by omega)]; try with_reducible rfl))
      try simp only [Act.put, List.setIfInBounds_toArray, List.set_cons_zero, List.set_cons_succ]
      refine rg_take (v := ?_) 15 rfl (by kernel_rfl) (by kernel_rfl) (by kernel_rfl) (fun _ _ _ h => h) (by rfl) ?_ ?_; rotate_left
      · (intro x hx; go_simp; first | done | with_reducible rfl | (rw [if_pos (by omega)]; try with_reducible rfl) | (rw [if_neg (by omega)]; try with_reducible rfl))
      try simp only [Act.put, List.setIfInBounds_toArray, List.set_cons_zero, List.set_cons_succ]
      refine rg_take (v := ?_) 16 rfl (by kernel_rfl) (by kernel_rfl) (by kernel_rfl) (fun _ _ _ h => h) (by rfl) ?_ ?_; rotate_left
      · (intro x hx; go_simp; first | done | with_reducible rfl | (rw [if_pos (by omega)]; try with_reducible rfl) | (rw [if_neg (by omega)]; try with_reducible rfl))
      try simp only [Act.put, List.setIfInBounds_toArray, List.set_cons_zero, List.set_cons_succ]
      refine rg_take (v := .agg (netC a b)) 17 rfl (by kernel_rfl) (by kernel_rfl) (by kernel_rfl) (fun _ _ _ h => h) (by rfl) ?_ ?_
      · (intro x hx; apply run_load_big; (case ho => exact rfl); (case hv => exact rfl); (case hg => exact CN x hx); (case hu => exact Tryd.underlying29); (case hd => rfl); (case hi => kernel_rfl))
      try simp only [Act.put, List.setIfInBounds_toArray, List.set_cons_zero, List.set_cons_succ]
      refine rg_take (v := .agg (adC a)) 18 rfl (by kernel_rfl) (by kernel_rfl) (by kernel_rfl) (fun _ _ _ h => h) (by rfl) ?_ ?_
      · (intro x hx; apply run_load_big; (case ho => exact rfl); (case hv => exact rfl); (case hg => exact CP x hx); (case hu => exact Tryd.underlying24); (case hd => rfl); (case hi => kernel_rfl))
      try simp only [Act.put, List.setIfInBounds_toArray, List.set_cons_zero, List.set_cons_succ]
      refine rg_step 19 rfl (by kernel_rfl) (by rfl) (fun K hK => ?_)
      go_simp
      refine (has_any _ a b a).mono ?_
      rw [W2.out]
      rintro e u6 ⟨rfl, p6⟩
      have r6 := r5.trans (p6.mono r5.size)
      have CN := Ext.at_ (M := fun _ => False) (w := u6) (below_at r6 N3 (heap_lt N3)) (fun h => h)
      have CP := Ext.at_ (M := fun _ => False) (w := u6) (below_at r6 P3 (heap_lt P3)) (fun h => h)
      refine hK.out _ _ (Ext.below_all _ p6) ?_
      clear hK K; try simp only [Act.put, List.setIfInBounds_toArray, List.set_cons_zero, List.set_cons_succ]
      refine rg_take (v := ?_) 20 rfl (by kernel_rfl) (by kernel_rfl) (by kernel_rfl) (fun _ _ _ h => h) (by rfl) ?_ ?_; rotate_left
      · (intro x hx; go_simp; first | done | with_reducible rfl | (rw [if_pos (by omega)]; try with_reducible rfl) | (rw [if_neg (by omega)]; try with_reducible rfl))
      try simp only [Act.put, List.setIfInBounds_toArray, List.set_cons_zero, List.set_cons_succ]
      refine rg_take (v := ?_) 21 rfl (by kernel_rfl) (by kernel_rfl) (by kernel_rfl) (fun _ _ _ h => h) (by rfl) ?_ ?_; rotate_left
      · (intro x hx; go_simp; first | done | with_reducible rfl | (rw [if_pos (by omega)]; try with_reducible rfl) | (rw [if_neg (by omega)]; try with_reducible rfl))
      try simp only [Act.put, List.setIfInBounds_toArray, List.set_cons_zero, List.set_cons_succ]
      refine rg_take (v := .agg (netC a b)) 22 rfl (by kernel_rfl) (by kernel_rfl) (by kernel_rfl) (fun _ _ _ h => h) (by rfl) ?_ ?_
      · (intro x hx; apply run_load_big; (case ho => exact rfl); (case hv => exact rfl); (case hg => exact CN x hx); (case hu => exact Tryd.underlying29); (case hd => rfl); (case hi => kernel_rfl))
      try simp only [Act.put, List.setIfInBounds_toArray, List.set_cons_zero, List.set_cons_succ]
      refine rg_take (v := .agg (netC a b)) 23 rfl (by kernel_rfl) (by kernel_rfl) (by kernel_rfl) (fun _ _ _ h => h) (by rfl) ?_ ?_
      · (intro x hx; apply run_load_big; (case ho => exact rfl); (case hv => exact rfl); (case hg => exact CN x hx); (case hu => exact Tryd.underlying29); (case hd => rfl); (case hi => kernel_rfl))
      try simp only [Act.put, List.setIfInBounds_toArray, List.set_cons_zero, List.set_cons_succ]
      refine rg_step 24 rfl (by kernel_rfl) (by rfl) (fun K hK => ?_)
      go_simp
      refine (first_any _ a b).mono ?_
      rw [EF.out]
      rintro e u7 ⟨rfl, p7⟩
      have r7 := r6.trans (p7.mono r6.size)
      have CN := Ext.at_ (M := fun _ => False) (w := u7) (below_at r7 N3 (heap_lt N3)) (fun h => h)
      have CP := Ext.at_ (M := fun _ => False) (w := u7) (below_at r7 P3 (heap_lt P3)) (fun h => h)
      refine hK.out _ _ (Ext.below_all _ p7) ?_
      clear hK K; try simp only [Act.put, List.setIfInBounds_toArray, List.set_cons_zero, List.set_cons_succ]
      refine rg_step 25 rfl (by kernel_rfl) (by rfl) (fun K hK => ?_)
      go_simp
      refine (has_any _ a b aF).mono ?_
      rw [W3.out]
      rintro e u8 ⟨rfl, p8⟩
      have r8 := r7.trans (p8.mono r7.size)
      have CN := Ext.at_ (M := fun _ => False) (w := u8) (below_at r8 N3 (heap_lt N3)) (fun h => h)
      have CP := Ext.at_ (M := fun _ => False) (w := u8) (below_at r8 P3 (heap_lt P3)) (fun h => h)
      refine hK.out _ _ (Ext.below_all _ p8) ?_
      clear hK K; try simp only [Act.put, List.setIfInBounds_toArray, List.set_cons_zero, List.set_cons_succ]
      refine rg_take (v := ?_) 26 rfl (by kernel_rfl) (by kernel_rfl) (by kernel_rfl) (fun _ _ _ h => h) (by rfl) ?_ ?_; rotate_left
      · (intro x hx; go_simp; first | done | with_reducible rfl | (rw [if_pos (by omega)]; try with_reducible rfl) | (rw [if_neg (by omega)]; try with_reducible rfl))
      try simp only [Act.put, List.setIfInBounds_toArray, List.set_cons_zero, List.set_cons_succ]
      refine rg_take (v := ?_) 27 rfl (by kernel_rfl) (by kernel_rfl) (by kernel_rfl) (fun _ _ _ h => h) (by rfl) ?_ ?_; rotate_left
      · (intro x hx; go_simp; first | done | with_reducible rfl | (rw [if_pos (by omega)]; try with_reducible rfl) | (rw [if_neg (by omega)]; try with_reducible rfl))
      try simp only [Act.put, List.setIfInBounds_toArray, List.set_cons_zero, List.set_cons_succ]
      refine rg_take (v := .agg (netC a b)) 28 rfl (by kernel_rfl) (by kernel_rfl) (by kernel_rfl) (fun _ _ _ h => h) (by rfl) ?_ ?_
      · (intro x hx; apply run_load_big; (case ho => exact rfl); (case hv => exact rfl); (case hg => exact CN x hx); (case hu => exact Tryd.underlying29); (case hd => rfl); (case hi => kernel_rfl))
      try simp only [Act.put, List.setIfInBounds_toArray, List.set_cons_zero, List.set_cons_succ]
      refine rg_take (v := .agg (netC a b)) 29 rfl (by kernel_rfl) (by kernel_rfl) (by kernel_rfl) (fun _ _ _ h => h) (by rfl) ?_ ?_
      · (intro x hx; apply run_load_big; (case ho => exact rfl); (case hv => exact rfl); (case hg => exact CN x hx); (case hu => exact Tryd.underlying29); (case hd => rfl); (case hi => kernel_rfl))
      try simp only [Act.put, List.setIfInBounds_toArray, List.set_cons_zero, List.set_cons_succ]
      refine rg_step 30 rfl (by kernel_rfl) (by rfl) (fun K hK => ?_)
      go_simp
      refine (last_any _ a b).mono ?_
      rw [EL.out]
      rintro e u9 ⟨rfl, p9⟩
      have r9 := r8.trans (p9.mono r8.size)
      have CN := Ext.at_ (M := fun _ => False) (w := u9) (below_at r9 N3 (heap_lt N3)) (fun h => h)
      have CP := Ext.at_ (M := fun _ => False) (w := u9) (below_at r9 P3 (heap_lt P3)) (fun h => h)
      refine hK.out _ _ (Ext.below_all _ p9) ?_
      clear hK K; try simp only [Act.put, List.setIfInBounds_toArray, List.set_cons_zero, List.set_cons_succ]
      refine rg_step 31 rfl (by kernel_rfl) (by rfl) (fun K hK => ?_)
      go_simp
      refine (has_any _ a b aL).mono ?_
      rw [W4.out]
      rintro e u10 ⟨rfl, p10⟩
      have r10 := r9.trans (p10.mono r9.size)
      have CN := Ext.at_ (M := fun _ => False) (w := u10) (below_at r10 N3 (heap_lt N3)) (fun h => h)
      have CP := Ext.at_ (M := fun _ => False) (w := u10) (below_at r10 P3 (heap_lt P3)) (fun h => h)
      refine hK.out _ _ (Ext.below_all _ p10) ?_
      clear hK K; try simp only [Act.put, List.setIfInBounds_toArray, List.set_cons_zero, List.set_cons_succ]
      refine rg_take (v := ?_) 32 rfl (by kernel_rfl) (by kernel_rfl) (by kernel_rfl) (fun _ _ _ h => h) (by rfl) ?_ ?_; rotate_left
      · (intro x hx; go_simp; first | done | with_reducible rfl | (rw [if_pos (by omega)]; try with_reducible rfl) | (rw [if_neg (by omega)]; try with_reducible rfl))
      try simp only [Act.put, List.setIfInBounds_toArray, List.set_cons_zero, List.set_cons_succ]
      refine rg_take (v := ?_) 33 rfl (by kernel_rfl) (by kernel_rfl) (by kernel_rfl) (fun _ _ _ h => h) (by rfl) ?_ ?_; rotate_left
      · (intro x hx; go_simp; first | done | with_reducible rfl | (rw [if_pos (by omega)]; try with_reducible rfl) | (rw [if_neg (by omega)]; try with_reducible rfl))
      try simp only [Act.put, List.setIfInBounds_toArray, List.set_cons_zero, List.set_cons_succ]
      refine rg_done (by kernel_rfl) ?_
      go_wp2_with fail
      go_ret
      exact ⟨rfl, b3.trans (r10.mono b3.size)⟩
  · have d1 : decide ((nf : Int) ≤ (nx : Int)) = false := decide_eq_false (by omega)
    have d2 : decide (nf ≤ nx) = false := decide_eq_false c1
    have HB := Lib.hid (show hasN (numA x) (numA a) (behN b) = false by rw [NX.out, W5.out, d2]; rfl)
    clear c1
    refine rg_begin (fun _ => False) (by kernel_rfl) ?_
    refine rg_take (v := .agg (netC a b)) 0 rfl (by kernel_rfl) (by kernel_rfl) (by kernel_rfl) (fun _ _ _ h => h) (by rfl) ?_ ?_
    · (intro x hx; apply run_load_big; (case ho => exact rfl); (case hv => exact rfl); (case hg => exact CN x hx); (case hu => exact Tryd.underlying29); (case hd => rfl); (case hi => kernel_rfl))
    try simp only [Act.put, List.setIfInBounds_toArray, List.set_cons_zero, List.set_cons_succ]
    refine rg_take (v := .agg (adC x)) 1 rfl (by kernel_rfl) (by kernel_rfl) (by kernel_rfl) (fun _ _ _ h => h) (by rfl) ?_ ?_
    · (intro x hx; apply run_load_big; (case ho => exact rfl); (case hv => exact rfl); (case hg => exact CX x hx); (case hu => exact Tryd.underlying24); (case hd => rfl); (case hi => kernel_rfl))
    try simp only [Act.put, List.setIfInBounds_toArray, List.set_cons_zero, List.set_cons_succ]
    refine rg_take (v := ?_) 3 rfl (by kernel_rfl) (by kernel_rfl) (by kernel_rfl) (fun _ _ _ h => h) (by rfl) ?_ ?_; rotate_left
    · (intro x hx; go_simp; first | done | with_reducible rfl | (rw [if_pos (by omega)]; try with_reducible rfl) | (rw [if_neg (by omega)]; try with_reducible rfl))
    try simp only [Act.put, List.setIfInBounds_toArray, List.set_cons_zero, List.set_cons_succ]
    refine rg_take (v := .agg (netC a b)) 4 rfl (by kernel_rfl) (by kernel_rfl) (by kernel_rfl) (fun _ _ _ h => h) (by rfl) ?_ ?_
    · (intro x hx; apply run_load_big; (case ho => exact rfl); (case hv => exact rfl); (case hg => exact CN x hx); (case hu => exact Tryd.underlying29); (case hd => rfl); (case hi => kernel_rfl))
    try simp only [Act.put, List.setIfInBounds_toArray, List.set_cons_zero, List.set_cons_succ]
    refine rg_step 2 rfl (by kernel_rfl) (by rfl) (fun K hK => ?_)
    go_simp
    refine (has_any _ a b x).mono ?_
    rw [HB.out]
    rintro e u1 ⟨rfl, p1⟩
    have r1 := r0.trans (p1.mono r0.size)
    have CN := Ext.at_ (M := fun _ => False) (w := u1) (below_at r1 N3 (heap_lt N3)) (fun h => h)
    have CP := Ext.at_ (M := fun _ => False) (w := u1) (below_at r1 P3 (heap_lt P3)) (fun h => h)
    refine hK.out _ _ (Ext.below_all _ p1) ?_
    clear hK K; try simp only [Act.put, List.setIfInBounds_toArray, List.set_cons_zero, List.set_cons_succ]
    refine rg_step 5 rfl (by kernel_rfl) (by rfl) (fun K hK => ?_)
    go_simp
    refine (first_any _ a b).mono ?_
    rw [EF.out]
    rintro e u2 ⟨rfl, p2⟩
    have r2 := r1.trans (p2.mono r1.size)
    have CN := Ext.at_ (M := fun _ => False) (w := u2) (below_at r2 N3 (heap_lt N3)) (fun h => h)
    have CP := Ext.at_ (M := fun _ => False) (w := u2) (below_at r2 P3 (heap_lt P3)) (fun h => h)
    refine hK.out _ _ (Ext.below_all _ p2) ?_
    clear hK K; try simp only [Act.put, List.setIfInBounds_toArray, List.set_cons_zero, List.set_cons_succ]
    refine rg_step 6 rfl (by kernel_rfl) (by rfl) (fun K hK => ?_)
    go_simp
    refine (numa_any _ aF).mono ?_
    rw [NF.out]
    rintro e u3 ⟨rfl, p3⟩
    have r3 := r2.trans (p3.mono r2.size)
    have CN := Ext.at_ (M := fun _ => False) (w := u3) (below_at r3 N3 (heap_lt N3)) (fun h => h)
    have CP := Ext.at_ (M := fun _ => False) (w := u3) (below_at r3 P3 (heap_lt P3)) (fun h => h)
    refine hK.out _ _ (Ext.below_all _ p3) ?_
    clear hK K; try simp only [Act.put, List.setIfInBounds_toArray, List.set_cons_zero, List.set_cons_succ]
    refine rg_take (v := ?_) 7 rfl (by kernel_rfl) (by kernel_rfl) (by kernel_rfl) (fun _ _ _ h => h) (by rfl) ?_ ?_; rotate_left
    · (intro x hx; go_simp; first | done | with_reducible rfl | (rw [if_pos (by omega)]; try with_reducible rfl) | (rw [if_neg (by omega)]; try with_reducible rfl))
    try simp only [Act.put, List.setIfInBounds_toArray, List.set_cons_zero, List.set_cons_succ]
    refine rg_take (v := ?_) 8 rfl (by kernel_rfl) (by kernel_rfl) (by kernel_rfl) (fun _ _ _ h => h) (by rfl) ?_ ?_; rotate_left
    · (intro x hx; go_simp; first | done | with_reducible rfl | (rw [if_pos (by omega)]; try with_reducible rfl) | (rw [if_neg (by omega)]; try with_reducible rfl))
    try simp only [Act.put, List.setIfInBounds_toArray, List.set_cons_zero, List.set_cons_succ]
    refine rg_skip 9 rfl (by kernel_rfl) (by kernel_rfl) (by kernel_rfl) (fun _ _ _ h => h) (by rfl) ?_; simp only [Act.put, List.setIfInBounds_toArray, List.set_cons_zero, List.set_cons_succ]
    refine rg_skip 10 rfl (by kernel_rfl) (by kernel_rfl) (by kernel_rfl) (fun _ _ _ h => h) (by rfl) ?_; simp only [Act.put, List.setIfInBounds_toArray, List.set_cons_zero, List.set_cons_succ]
    refine rg_skip 11 rfl (by kernel_rfl) (by kernel_rfl) (by kernel_rfl) (fun _ _ _ h => h) (by rfl) ?_; simp only [Act.put, List.setIfInBounds_toArray, List.set_cons_zero, List.set_cons_succ]
    refine rg_skip 12 rfl (by kernel_rfl) (by kernel_rfl) (by kernel_rfl) (fun _ _ _ h => h) (by rfl) ?_; simp only [Act.put, List.setIfInBounds_toArray, List.set_cons_zero, List.set_cons_succ]
    refine rg_skip 13 rfl (by kernel_rfl) (by kernel_rfl) (by kernel_rfl) (fun _ _ _ h => h) (by rfl) ?_; simp only [Act.put, List.setIfInBounds_toArray, List.set_cons_zero, List.set_cons_succ]
    refine rg_take (v := ?_) 14 rfl (by kernel_rfl) (by kernel_rfl) (by kernel_rfl) (fun _ _ _ h => h) (by rfl) ?_ ?_; rotate_left
    · (intro x hx; go_simp; first | done | with_reducible rfl | (rw [if_pos (by omega)]; try with_reducible rfl) | (rw [if_neg (by omega)]; try with_reducible rfl))
    try simp only [Act.put, List.setIfInBounds_toArray, List.set_cons_zero, List.set_cons_succ]
    refine rg_take (v := ?_) 15 rfl (by kernel_rfl) (by kernel_rfl) (by kernel_rfl) (fun _ _ _ h => h) (by rfl) ?_ ?_; rotate_left
    · (intro x hx; go_simp; first | done | with_reducible rfl | (rw [if_pos (by omega)]; try with_reducible rfl) | (rw [if_neg (by omega)]; try with_reducible rfl))
    try simp only [Act.put, List.setIfInBounds_toArray, List.set_cons_zero, List.set_cons_succ]
    refine rg_take (v := ?_) 16 rfl (by kernel_rfl) (by kernel_rfl) (by kernel_rfl) (fun _ _ _ h => h) (by rfl) ?_ ?_; rotate_left
    · (intro x hx; go_simp; first | done | with_reducible rfl | (rw [if_pos (by omega)]; try with_reducible rfl) | (rw [if_neg (by omega)]; try with_reducible rfl))
    try simp only [Act.put, List.setIfInBounds_toArray, List.set_cons_zero, List.set_cons_succ]
    refine rg_take (v := .agg (netC a b)) 17 rfl (by kernel_rfl) (by kernel_rfl) (by kernel_rfl) (fun _ _ _ h => h) (by rfl) ?_ ?_
    · (intro x hx; apply run_load_big; (case ho => exact rfl); (case hv => exact rfl); (case hg => exact CN x hx); (case hu => exact Tryd.underlying29); (case hd => rfl); (case hi => kernel_rfl))
    try simp only [Act.put, List.setIfInBounds_toArray, List.set_cons_zero, List.set_cons_succ]
    refine rg_take (v := .agg (adC a)) 18 rfl (by kernel_rfl) (by kernel_rfl) (by kernel_rfl) (fun _ _ _ h => h) (by rfl) ?_ ?_
    · (intro x hx; apply run_load_big; (case ho => exact rfl); (case hv => exact rfl); (case hg => exact CP x hx); (case hu => exact Tryd.underlying24); (case hd => rfl); (case hi => kernel_rfl))
    try simp only [Act.put, List.setIfInBounds_toArray, List.set_cons_zero, List.set_cons_succ]
    refine rg_step 19 rfl (by kernel_rfl) (by rfl) (fun K hK => ?_)
    go_simp
    refine (has_any _ a b a).mono ?_
    rw [W2.out]
    rintro e u4 ⟨rfl, p4⟩
    have r4 := r3.trans (p4.mono r3.size)
    have CN := Ext.at_ (M := fun _ => False) (w := u4) (below_at r4 N3 (heap_lt N3)) (fun h => h)
    have CP := Ext.at_ (M := fun _ => False) (w := u4) (below_at r4 P3 (heap_lt P3)) (fun h => h)
    refine hK.out _ _ (Ext.below_all _ p4) ?_
    clear hK K; try simp only [Act.put, List.setIfInBounds_toArray, List.set_cons_zero, List.set_cons_succ]
    refine rg_take (v := ?_) 20 rfl (by kernel_rfl) (by kernel_rfl) (by kernel_rfl) (fun _ _ _ h => h) (by rfl) ?_ ?_; rotate_left
    · (intro x hx; go_simp; first | done | with_reducible rfl | (rw [if_pos (by omega)]; try with_reducible rfl) | (rw [if_neg (by omega)]; try with_reducible rfl))
    try simp only [Act.put, List.setIfInBounds_toArray, List.set_cons_zero, List.set_cons_succ]
    refine rg_take (v := ?_) 21 rfl (by kernel_rfl) (by kernel_rfl) (by kernel_rfl) (fun _ _ _ h => h) (by rfl) ?_ ?_; rotate_left
    · (intro x hx; go_simp; first | done | with_reducible rfl | (rw [if_pos (by omega)]; try with_reducible rfl) | (rw [if_neg (by omega)]; try with_reducible rfl))
    try simp only [Act.put, List.setIfInBounds_toArray, List.set_cons_zero, List.set_cons_succ]
    refine rg_take (v := .agg (netC a b)) 22 rfl (by kernel_rfl) (by kernel_rfl) (by kernel_rfl) (fun _ _ _ h => h) (by rfl) ?_ ?_
    · (intro x hx; apply run_load_big; (case ho => exact rfl); (case hv => exact rfl); (case hg => exact CN x hx); (case hu => exact Tryd.underlying29); (case hd => rfl); (case hi => kernel_rfl))
    try simp only [Act.put, List.setIfInBounds_toArray, List.set_cons_zero, List.set_cons_succ]
    refine rg_take (v := .agg (netC a b)) 23 rfl (by kernel_rfl) (by kernel_rfl) (by kernel_rfl) (fun _ _ _ h => h) (by rfl) ?_ ?_
    · (intro x hx; apply run_load_big; (case ho => exact rfl); (case hv => exact rfl); (case hg => exact CN x hx); (case hu => exact Tryd.underlying29); (case hd => rfl); (case hi => kernel_rfl))
    try simp only [Act.put, List.setIfInBounds_toArray, List.set_cons_zero, List.set_cons_succ]
    refine rg_step 24 rfl (by kernel_rfl) (by rfl) (fun K hK => ?_)
    go_simp
    refine (first_any _ a b).mono ?_
    rw [EF.out]
    rintro e u5 ⟨rfl, p5⟩
    have r5 := r4.trans (p5.mono r4.size)
    have CN := Ext.at_ (M := fun _ => False) (w := u5) (below_at r5 N3 (heap_lt N3)) (fun h => h)
    have CP := Ext.at_ (M := fun _ => False) (w := u5) (below_at r5 P3 (heap_lt P3)) (fun h => h)
    refine hK.out _ _ (Ext.below_all _ p5) ?_
    clear hK K; try simp only [Act.put, List.setIfInBounds_toArray, List.set_cons_zero, List.set_cons_succ]
    refine rg_step 25 rfl (by kernel_rfl) (by rfl) (fun K hK => ?_)
    go_simp
    refine (has_any _ a b aF).mono ?_
    rw [W3.out]
    rintro e u6 ⟨rfl, p6⟩
    have r6 := r5.trans (p6.mono r5.size)
    have CN := Ext.at_ (M := fun _ => False) (w := u6) (below_at r6 N3 (heap_lt N3)) (fun h => h)
    have CP := Ext.at_ (M := fun _ => False) (w := u6) (below_at r6 P3 (heap_lt P3)) (fun h => h)
    refine hK.out _ _ (Ext.below_all _ p6) ?_
    clear hK K; try simp only [Act.put, List.setIfInBounds_toArray, List.set_cons_zero, List.set_cons_succ]
    refine rg_take (v := ?_) 26 rfl (by kernel_rfl) (by kernel_rfl) (by kernel_rfl) (fun _ _ _ h => h) (by rfl) ?_ ?_; rotate_left
    · (intro x hx; go_simp; first | done | with_reducible rfl | (rw [if_pos (by omega)]; try with_reducible rfl) | (rw [if_neg (by omega)]; try with_reducible rfl))
    try simp only [Act.put, List.setIfInBounds_toArray, List.set_cons_zero, List.set_cons_succ]
    refine rg_take (v := ?_) 27 rfl (by kernel_rfl) (by kernel_rfl) (by kernel_rfl) (fun _ _ _ h => h) (by rfl) ?_ ?_; rotate_left
    · (intro x hx; go_simp; first | done | with_reducible rfl | (rw [if_pos (by omega)]; try with_reducible rfl) | (rw [if_neg (by omega)]; try with_reducible rfl))
    try simp only [Act.put, List.setIfInBounds_toArray, List.set_cons_zero, List.set_cons_succ]
    refine rg_take (v := .agg (netC a b)) 28 rfl (by kernel_rfl) (by kernel_rfl) (by kernel_rfl) (fun _ _ _ h => h) (by rfl) ?_ ?_
    · (intro x hx; apply run_load_big; (case ho => exact rfl); (case hv => exact rfl); (case hg => exact CN x hx); (case hu => exact Tryd.underlying29); (case hd => rfl); (case hi => kernel_rfl))
    try simp only [Act.put, List.setIfInBounds_toArray, List.set_cons_zero, List.set_cons_succ]
    refine rg_take (v := .agg (netC a b)) 29 rfl (by kernel_rfl) (by kernel_rfl) (by kernel_rfl) (fun _ _ _ h => h) (by rfl) ?_ ?_
    · (intro x hx; apply run_load_big; (case ho => exact rfl); (case hv => exact rfl); (case hg => exact CN x hx); (case hu => exact Tryd.underlying29); (case hd => rfl); (case hi => kernel_rfl))
    try simp only [Act.put, List.setIfInBounds_toArray, List.set_cons_zero, List.set_cons_succ]
    refine rg_step 30 rfl (by kernel_rfl) (by rfl) (fun K hK => ?_)
    go_simp
    refine (last_any _ a b).mono ?_
    rw [EL.out]
    rintro e u7 ⟨rfl, p7⟩
    have r7 := r6.trans (p7.mono r6.size)
    have CN := Ext.at_ (M := fun _ => False) (w := u7) (below_at r7 N3 (heap_lt N3)) (fun h => h)
    have CP := Ext.at_ (M := fun _ => False) (w := u7) (below_at r7 P3 (heap_lt P3)) (fun h => h)
    refine hK.out _ _ (Ext.below_all _ p7) ?_
    clear hK K; try simp only [Act.put, List.setIfInBounds_toArray, List.set_cons_zero, List.set_cons_succ]
    refine rg_step 31 rfl (by kernel_rfl) (by rfl) (fun K hK => ?_)
    go_simp
    refine (has_any _ a b aL).mono ?_
    rw [W4.out]
    rintro e u8 ⟨rfl, p8⟩
    have r8 := r7.trans (p8.mono r7.size)
    have CN := Ext.at_ (M := fun _ => False) (w := u8) (below_at r8 N3 (heap_lt N3)) (fun h => h)
    have CP := Ext.at_ (M := fun _ => False) (w := u8) (below_at r8 P3 (heap_lt P3)) (fun h => h)
    refine hK.out _ _ (Ext.below_all _ p8) ?_
    clear hK K; try simp only [Act.put, List.setIfInBounds_toArray, List.set_cons_zero, List.set_cons_succ]
    refine rg_take (v := ?_) 32 rfl (by kernel_rfl) (by kernel_rfl) (by kernel_rfl) (fun _ _ _ h => h) (by rfl) ?_ ?_; rotate_left
    · (intro x hx; go_simp; first | done | with_reducible rfl | (rw [if_pos (by omega)]; try with_reducible rfl) | (rw [if_neg (by omega)]; try with_reducible rfl))
    try simp only [Act.put, List.setIfInBounds_toArray, List.set_cons_zero, List.set_cons_succ]
    refine rg_take (v := ?_) 33 rfl (by kernel_rfl) (by kernel_rfl) (by kernel_rfl) (fun _ _ _ h => h) (by rfl) ?_ ?_; rotate_left
    · (intro x hx; go_simp; first | done | with_reducible rfl | (rw [if_pos (by omega)]; try with_reducible rfl) | (rw [if_neg (by omega)]; try with_reducible rfl))
    try simp only [Act.put, List.setIfInBounds_toArray, List.set_cons_zero, List.set_cons_succ]
    refine rg_done (by kernel_rfl) ?_
    go_wp2_with fail
    go_ret
    exact ⟨rfl, b3.trans (r8.mono b3.size)⟩
end Go.Proofs.YtabmgggmailomaaDoor
