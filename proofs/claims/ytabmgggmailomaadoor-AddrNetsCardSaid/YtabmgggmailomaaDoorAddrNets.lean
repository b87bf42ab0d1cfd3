/-
  The walk of the statement AddrNets.
-/
import Derived.Test.YtabmgggmailomaaDoorAn9
import Derived.Test.YtabmgggmailomaaDoorRn2
import Derived.Test.YtabmgggmailomaaDoorRn3
namespace Go.Proofs.YtabmgggmailomaaDoor
open Go.RowKit

set_option maxRecDepth 100000 in
set_option maxHeartbeats 8000000 in
theorem addrNets_all (w : World) (hp : powIs w) (a : Ad4) (_ : True) (b : Int) (_ : (Lit.int .i64 b).wf = true) (x : Ad4) (_ : True) (m : Mac6) (_ : True) : Calls Tryd.prog 6 #[adV a, .int .i64 b, adV x, macV m] w (TruePost w) := by
  have HP := Lib.hid hp
  have W0 : ((((w.alloc (.cells (adC a) 24)).alloc (.cells (adC x) 24)).alloc (.cells (mxC m) 33))).heap[w.heap.size]? = some (.cells (adC a) 24 (0, 0)) := heap_alloc_of (heap_alloc_of (heap_alloc_new w _))
  have W1 : ((((w.alloc (.cells (adC a) 24)).alloc (.cells (adC x) 24)).alloc (.cells (mxC m) 33))).heap[w.heap.size + 1]? = some (.cells (adC x) 24 (0, 0)) := heap_alloc_of (heap_alloc_at (by simp))
  have W2 : ((((w.alloc (.cells (adC a) 24)).alloc (.cells (adC x) 24)).alloc (.cells (mxC m) 33))).heap[w.heap.size + 1 + 1]? = some (.cells (mxC m) 33 (0, 0)) := heap_alloc_at (by simp)
  have b0 : Below w.heap.size w (((w.alloc (.cells (adC a) 24)).alloc (.cells (adC x) 24)).alloc (.cells (mxC m) 33)) := (((Below.refl _ w).alloc (Nat.le_refl _) _).alloc (by simp) _).alloc (by simp; omega) _
  clear hp
  go_enter Tryd.func6, Tryd.ntmps6
  go_upto_region 1 with fail
  generalize (((w.alloc (.cells (adC a) 24)).alloc (.cells (adC x) 24)).alloc (.cells (mxC m) 33)) = w0 at W0 W1 W2 b0 ⊢
  obtain ⟨g, hg⟩ : ∃ g, w.heap.size = g := ⟨_, rfl⟩
  rw [hg] at W0 W1 W2 ⊢
  have HG := Lib.hid hg
  clear hg
  go_wp2_with fail
  refine (awake3_any w0 (HP.out.below b0)).mono ?_
  rintro e w1 ⟨rfl, q1⟩
  have P1 := below_at q1 W0 (heap_lt W0)
  have X1 := below_at q1 W1 (heap_lt W1)
  have M1 := below_at q1 W2 (heap_lt W2)
  have b1 := b0.trans (q1.mono b0.size)
  clear W0 W1 W2 b0 q1
  go_upto_region 4 with (first
    | ((with_reducible apply at_load_row 24); (case hx => exact rfl); (case hg => exact P1); (case hu => exact Tryd.underlying24); (case hd => rfl); (case hi => kernel_rfl))
    | ((with_reducible apply at_store_new 29); (case hx => exact rfl); (case hy => exact rfl); (case hg => first | rfl | simp); (case hi => kernel_rfl); (case hold => rfl); (case h1 => kernel_rfl)))
  have q2 : Below w1.heap.size w1 (w1.alloc (.cells (netC a b) 29)) := (Below.refl _ w1).alloc (Nat.le_refl _) _
  have P2 := below_at q2 P1 (heap_lt P1)
  have X2 := below_at q2 X1 (heap_lt X1)
  have M2 := below_at q2 M1 (heap_lt M1)
  have N2 := heap_alloc_new w1 (.cells (netC a b) 29)
  have b2 := b1.trans (q2.mono b1.size)
  obtain ⟨gn, hgn⟩ : ∃ gn, w1.heap.size = gn := ⟨_, rfl⟩
  rw [hgn] at N2 ⊢
  generalize w1.alloc (.cells (netC a b) 29) = w2 at P2 X2 M2 N2 b2 ⊢
  clear hgn q2 b1 P1 X1 M1
  go_upto_region 5 with (first
    | ((with_reducible apply at_load_row 24); (case hx => exact rfl); (case hg => exact P2); (case hu => exact Tryd.underlying24); (case hd => rfl); (case hi => kernel_rfl))
    | ((with_reducible apply at_store_new 41); (case hx => exact rfl); (case hy => exact rfl); (case hg => first | rfl | simp); (case hi => kernel_rfl); (case hold => rfl); (case h1 => kernel_rfl)))
  have q3 : Below w2.heap.size w2 (w2.alloc (.cells (netC a b) 41)) := (Below.refl _ w2).alloc (Nat.le_refl _) _
  have P3 := below_at q3 P2 (heap_lt P2)
  have X3 := below_at q3 X2 (heap_lt X2)
  have M3 := below_at q3 M2 (heap_lt M2)
  have N3 := below_at q3 N2 (heap_lt N2)
  have R3 := heap_alloc_new w2 (.cells (netC a b) 41)
  have b3 := b2.trans (q3.mono b2.size)
  obtain ⟨gr, hgr⟩ : ∃ gr, w2.heap.size = gr := ⟨_, rfl⟩
  rw [hgr] at R3 ⊢
  generalize w2.alloc (.cells (netC a b) 41) = w3 at P3 X3 M3 N3 R3 b3 ⊢
  clear hgr q3 b2 P2 X2 M2 N2
  have nl := numA_lt a
  obtain ⟨H, hH⟩ : ∃ v, hasN (numA x) (numA a) (behN b) = v := ⟨_, rfl⟩
  obtain ⟨F, hF⟩ : ∃ v, firstA a b = v := ⟨_, rfl⟩
  obtain ⟨L, hL⟩ : ∃ v, lastA a b = v := ⟨_, rfl⟩
  obtain ⟨T, hT⟩ : ∃ v, textA a = v := ⟨_, rfl⟩
  obtain ⟨V, hV⟩ : ∃ v, textM m = v := ⟨_, rfl⟩
  obtain ⟨n, hn⟩ : ∃ v, numA a = v := ⟨_, rfl⟩
  have HH := Lib.hid hH; have HF := Lib.hid hF; have HL := Lib.hid hL; have HT := Lib.hid hT; have HV := Lib.hid hV; have HN := Lib.hid hn
  have HO := Lib.hid (show of4 (n : Int) = a by rw [← hn]; exact of4_numA a)
  rw [hn] at nl
  have eH : (H == H) = true := beq_self_eq_true _
  have eF : ∀ w, (binOp .eql 24 (adV F) (adV F)).run Tryd.prog w = .ok (.bool true) w := fun w => by rw [run_eql_ad w F F, adeq_self]
  have eL : ∀ w, (binOp .eql 24 (adV L) (adV L)).run Tryd.prog w = .ok (.bool true) w := fun w => by rw [run_eql_ad w L L, adeq_self]
  have eA : ∀ w, (binOp .eql 24 (adV a) (adV a)).run Tryd.prog w = .ok (.bool true) w := fun w => by rw [run_eql_ad w a a, adeq_self]
  have eT : ((str T).toList == (str T).toList) = true := beq_self_eq_true _
  have eV : ((str V).toList == (str V).toList) = true := beq_self_eq_true _
  have eN : ((n : Int) == (n : Int)) = true := beq_self_eq_true _
  clear hH hF hL hT hV hn
  have r0 : Below w3.heap.size w3 w3.drew := (Below.refl _ _).drew
  have CN := Ext.at_ (M := fun _ => False) (w := w3.drew) N3 (fun h => h)
  have CR := Ext.at_ (M := fun _ => False) (w := w3.drew) R3 (fun h => h)
  have CX := Ext.at_ (M := fun _ => False) (w := w3.drew) X3 (fun h => h)
  refine rg_begin (fun _ => False) (by kernel_rfl) ?_
  refine rg_take (v := .agg (netC a b)) 0 rfl (by kernel_rfl) (by kernel_rfl) (by kernel_rfl) (fun _ _ _ h => h) (by rfl) ?_ ?_
  · (intro x hx; apply run_load_big; (case ho => exact rfl); (case hv => exact rfl); (case hg => exact CN x hx); (case hu => exact Tryd.underlying29); (case hd => rfl); (case hi => kernel_rfl))
  try simp only [Act.put, List.setIfInBounds_toArray, List.set_cons_zero, List.set_cons_succ]
  refine rg_take (v := .agg (adC x)) 1 rfl (by kernel_rfl) (by kernel_rfl) (by kernel_rfl) (fun _ _ _ h => h) (by rfl) ?_ ?_
  · (intro x hx; apply run_load_big; (case ho => exact rfl); (case hv => exact rfl); (case hg => exact CX x hx); (case hu => exact Tryd.underlying24); (case hd => rfl); (case hi => kernel_rfl))
  try simp only [Act.put, List.setIfInBounds_toArray, List.set_cons_zero, List.set_cons_succ]
  refine rg_take (v := .agg (netC a b)) 3 rfl (by kernel_rfl) (by kernel_rfl) (by kernel_rfl) (fun _ _ _ h => h) (by rfl) ?_ ?_
  · (intro x hx; apply run_load_big; (case ho => exact rfl); (case hv => exact rfl); (case hg => exact CR x hx); (case hu => exact Tryd.underlying41); (case hd => rfl); (case hi => kernel_rfl))
  try simp only [Act.put, List.setIfInBounds_toArray, List.set_cons_zero, List.set_cons_succ]
  refine rg_take (v := .agg (adC x)) 4 rfl (by kernel_rfl) (by kernel_rfl) (by kernel_rfl) (fun _ _ _ h => h) (by rfl) ?_ ?_
  · (intro x hx; apply run_load_big; (case ho => exact rfl); (case hv => exact rfl); (case hg => exact CX x hx); (case hu => exact Tryd.underlying24); (case hd => rfl); (case hi => kernel_rfl))
  try simp only [Act.put, List.setIfInBounds_toArray, List.set_cons_zero, List.set_cons_succ]
  refine rg_step 2 rfl (by kernel_rfl) (by rfl) (fun K hK => ?_)
  go_simp
  refine (has_any _ a b x).mono ?_
  rw [HH.out]
  rintro e u1 ⟨rfl, p1⟩
  have r1 := r0.trans (p1.mono r0.size)
  have CN := Ext.at_ (M := fun _ => False) (w := u1) (below_at r1 N3 (heap_lt N3)) (fun h => h)
  have CR := Ext.at_ (M := fun _ => False) (w := u1) (below_at r1 R3 (heap_lt R3)) (fun h => h)
  have CA := Ext.at_ (M := fun _ => False) (w := u1) (below_at r1 P3 (heap_lt P3)) (fun h => h)
  have CX := Ext.at_ (M := fun _ => False) (w := u1) (below_at r1 X3 (heap_lt X3)) (fun h => h)
  have CM := Ext.at_ (M := fun _ => False) (w := u1) (below_at r1 M3 (heap_lt M3)) (fun h => h)
  refine hK.out _ _ (Ext.below_all _ p1) ?_
  clear hK K; try simp only [Act.put, List.setIfInBounds_toArray, List.set_cons_zero, List.set_cons_succ]
  refine rg_step 5 rfl (by kernel_rfl) (by rfl) (fun K hK => ?_)
  go_simp
  refine (rhas_any _ a b x).mono ?_
  rw [HH.out]
  rintro e u2 ⟨rfl, p2⟩
  have r2 := r1.trans (p2.mono r1.size)
  have CN := Ext.at_ (M := fun _ => False) (w := u2) (below_at r2 N3 (heap_lt N3)) (fun h => h)
  have CR := Ext.at_ (M := fun _ => False) (w := u2) (below_at r2 R3 (heap_lt R3)) (fun h => h)
  have CA := Ext.at_ (M := fun _ => False) (w := u2) (below_at r2 P3 (heap_lt P3)) (fun h => h)
  have CX := Ext.at_ (M := fun _ => False) (w := u2) (below_at r2 X3 (heap_lt X3)) (fun h => h)
  have CM := Ext.at_ (M := fun _ => False) (w := u2) (below_at r2 M3 (heap_lt M3)) (fun h => h)
  refine hK.out _ _ (Ext.below_all _ p2) ?_
  clear hK K; try simp only [Act.put, List.setIfInBounds_toArray, List.set_cons_zero, List.set_cons_succ]
  refine rg_take (v := ?_) 6 rfl (by kernel_rfl) (by kernel_rfl) (by kernel_rfl) (fun _ _ _ h => h) (by rfl) ?_ ?_; rotate_left
  · (intro x hx; go_simp; first | done | with_reducible rfl | (rw [if_pos (by omega)]; try with_reducible rfl) | (rw [if_neg (by omega)]; try with_reducible rfl))
  try simp only [Act.put, List.setIfInBounds_toArray, List.set_cons_zero, List.set_cons_succ]
  refine rg_take (v := ?_) 7 rfl (by kernel_rfl) (by kernel_rfl) (by kernel_rfl) (fun _ _ _ h => h) (by rfl) ?_ ?_; rotate_left
  · (intro x hx; go_simp; first | done | with_reducible rfl | (rw [if_pos (by omega)]; try with_reducible rfl) | (rw [if_neg (by omega)]; try with_reducible rfl))
  try simp only [Act.put, List.setIfInBounds_toArray, List.set_cons_zero, List.set_cons_succ]
  refine rg_take (v := .agg (netC a b)) 8 rfl (by kernel_rfl) (by kernel_rfl) (by kernel_rfl) (fun _ _ _ h => h) (by rfl) ?_ ?_
  · (intro x hx; apply run_load_big; (case ho => exact rfl); (case hv => exact rfl); (case hg => exact CN x hx); (case hu => exact Tryd.underlying29); (case hd => rfl); (case hi => kernel_rfl))
  try simp only [Act.put, List.setIfInBounds_toArray, List.set_cons_zero, List.set_cons_succ]
  refine rg_take (v := .agg (netC a b)) 10 rfl (by kernel_rfl) (by kernel_rfl) (by kernel_rfl) (fun _ _ _ h => h) (by rfl) ?_ ?_
  · (intro x hx; apply run_load_big; (case ho => exact rfl); (case hv => exact rfl); (case hg => exact CR x hx); (case hu => exact Tryd.underlying41); (case hd => rfl); (case hi => kernel_rfl))
  try simp only [Act.put, List.setIfInBounds_toArray, List.set_cons_zero, List.set_cons_succ]
  refine rg_step 9 rfl (by kernel_rfl) (by rfl) (fun K hK => ?_)
  go_simp
  refine (first_any _ a b).mono ?_
  rw [show of4 ((firstN (numA a) (behN b) : Nat) : Int) = firstA a b from rfl, HF.out]
  rintro e u3 ⟨rfl, p3⟩
  have r3 := r2.trans (p3.mono r2.size)
  have CN := Ext.at_ (M := fun _ => False) (w := u3) (below_at r3 N3 (heap_lt N3)) (fun h => h)
  have CR := Ext.at_ (M := fun _ => False) (w := u3) (below_at r3 R3 (heap_lt R3)) (fun h => h)
  have CA := Ext.at_ (M := fun _ => False) (w := u3) (below_at r3 P3 (heap_lt P3)) (fun h => h)
  have CX := Ext.at_ (M := fun _ => False) (w := u3) (below_at r3 X3 (heap_lt X3)) (fun h => h)
  have CM := Ext.at_ (M := fun _ => False) (w := u3) (below_at r3 M3 (heap_lt M3)) (fun h => h)
  refine hK.out _ _ (Ext.below_all _ p3) ?_
  clear hK K; try simp only [Act.put, List.setIfInBounds_toArray, List.set_cons_zero, List.set_cons_succ]
  refine rg_step 11 rfl (by kernel_rfl) (by rfl) (fun K hK => ?_)
  go_simp
  refine (rfirst_any _ a b).mono ?_
  rw [HF.out]
  rintro e u4 ⟨rfl, p4⟩
  have r4 := r3.trans (p4.mono r3.size)
  have CN := Ext.at_ (M := fun _ => False) (w := u4) (below_at r4 N3 (heap_lt N3)) (fun h => h)
  have CR := Ext.at_ (M := fun _ => False) (w := u4) (below_at r4 R3 (heap_lt R3)) (fun h => h)
  have CA := Ext.at_ (M := fun _ => False) (w := u4) (below_at r4 P3 (heap_lt P3)) (fun h => h)
  have CX := Ext.at_ (M := fun _ => False) (w := u4) (below_at r4 X3 (heap_lt X3)) (fun h => h)
  have CM := Ext.at_ (M := fun _ => False) (w := u4) (below_at r4 M3 (heap_lt M3)) (fun h => h)
  refine hK.out _ _ (Ext.below_all _ p4) ?_
  clear hK K; try simp only [Act.put, List.setIfInBounds_toArray, List.set_cons_zero, List.set_cons_succ]
  refine rg_take (v := ?_) 12 rfl (by kernel_rfl) (by kernel_rfl) (by kernel_rfl) (fun _ _ _ h => h) (by rfl) ?_ ?_; rotate_left
  · (intro x hx; go_simp; first | done | with_reducible rfl | (rw [if_pos (by omega)]; try with_reducible rfl) | (rw [if_neg (by omega)]; try with_reducible rfl))
  try simp only [Act.put, List.setIfInBounds_toArray, List.set_cons_zero, List.set_cons_succ]
  refine rg_take (v := ?_) 13 rfl (by kernel_rfl) (by kernel_rfl) (by kernel_rfl) (fun _ _ _ h => h) (by rfl) ?_ ?_; rotate_left
  · (intro x hx; go_simp; first | done | with_reducible rfl | (rw [if_pos (by omega)]; try with_reducible rfl) | (rw [if_neg (by omega)]; try with_reducible rfl))
  try simp only [Act.put, List.setIfInBounds_toArray, List.set_cons_zero, List.set_cons_succ]
  refine rg_take (v := ?_) 14 rfl (by kernel_rfl) (by kernel_rfl) (by kernel_rfl) (fun _ _ _ h => h) (by rfl) ?_ ?_; rotate_left
  · (intro x hx; go_simp; first | done | with_reducible rfl | (rw [if_pos (by omega)]; try with_reducible rfl) | (rw [if_neg (by omega)]; try with_reducible rfl))
  try simp only [Act.put, List.setIfInBounds_toArray, List.set_cons_zero, List.set_cons_succ]
  refine rg_take (v := .agg (netC a b)) 15 rfl (by kernel_rfl) (by kernel_rfl) (by kernel_rfl) (fun _ _ _ h => h) (by rfl) ?_ ?_
  · (intro x hx; apply run_load_big; (case ho => exact rfl); (case hv => exact rfl); (case hg => exact CN x hx); (case hu => exact Tryd.underlying29); (case hd => rfl); (case hi => kernel_rfl))
  try simp only [Act.put, List.setIfInBounds_toArray, List.set_cons_zero, List.set_cons_succ]
  refine rg_take (v := .agg (netC a b)) 17 rfl (by kernel_rfl) (by kernel_rfl) (by kernel_rfl) (fun _ _ _ h => h) (by rfl) ?_ ?_
  · (intro x hx; apply run_load_big; (case ho => exact rfl); (case hv => exact rfl); (case hg => exact CR x hx); (case hu => exact Tryd.underlying41); (case hd => rfl); (case hi => kernel_rfl))
  try simp only [Act.put, List.setIfInBounds_toArray, List.set_cons_zero, List.set_cons_succ]
  refine rg_step 16 rfl (by kernel_rfl) (by rfl) (fun K hK => ?_)
  go_simp
  refine (last_any _ a b).mono ?_
  rw [show of4 ((lastN (numA a) (behN b) : Nat) : Int) = lastA a b from rfl, HL.out]
  rintro e u5 ⟨rfl, p5⟩
  have r5 := r4.trans (p5.mono r4.size)
  have CN := Ext.at_ (M := fun _ => False) (w := u5) (below_at r5 N3 (heap_lt N3)) (fun h => h)
  have CR := Ext.at_ (M := fun _ => False) (w := u5) (below_at r5 R3 (heap_lt R3)) (fun h => h)
  have CA := Ext.at_ (M := fun _ => False) (w := u5) (below_at r5 P3 (heap_lt P3)) (fun h => h)
  have CX := Ext.at_ (M := fun _ => False) (w := u5) (below_at r5 X3 (heap_lt X3)) (fun h => h)
  have CM := Ext.at_ (M := fun _ => False) (w := u5) (below_at r5 M3 (heap_lt M3)) (fun h => h)
  refine hK.out _ _ (Ext.below_all _ p5) ?_
  clear hK K; try simp only [Act.put, List.setIfInBounds_toArray, List.set_cons_zero, List.set_cons_succ]
  refine rg_step 18 rfl (by kernel_rfl) (by rfl) (fun K hK => ?_)
  go_simp
  refine (rlast_any _ a b).mono ?_
  rw [HL.out]
  rintro e u6 ⟨rfl, p6⟩
  have r6 := r5.trans (p6.mono r5.size)
  have CN := Ext.at_ (M := fun _ => False) (w := u6) (below_at r6 N3 (heap_lt N3)) (fun h => h)
  have CR := Ext.at_ (M := fun _ => False) (w := u6) (below_at r6 R3 (heap_lt R3)) (fun h => h)
  have CA := Ext.at_ (M := fun _ => False) (w := u6) (below_at r6 P3 (heap_lt P3)) (fun h => h)
  have CX := Ext.at_ (M := fun _ => False) (w := u6) (below_at r6 X3 (heap_lt X3)) (fun h => h)
  have CM := Ext.at_ (M := fun _ => False) (w := u6) (below_at r6 M3 (heap_lt M3)) (fun h => h)
  refine hK.out _ _ (Ext.below_all _ p6) ?_
  clear hK K; try simp only [Act.put, List.setIfInBounds_toArray, List.set_cons_zero, List.set_cons_succ]
  refine rg_take (v := ?_) 19 rfl (by kernel_rfl) (by kernel_rfl) (by kernel_rfl) (fun _ _ _ h => h) (by rfl) ?_ ?_; rotate_left
  · (intro x hx; go_simp; first | done | with_reducible rfl | (rw [if_pos (by omega)]; try with_reducible rfl) | (rw [if_neg (by omega)]; try with_reducible rfl))
  try simp only [Act.put, List.setIfInBounds_toArray, List.set_cons_zero, List.set_cons_succ]
  refine rg_take (v := ?_) 20 rfl (by kernel_rfl) (by kernel_rfl) (by kernel_rfl) (fun _ _ _ h => h) (by rfl) ?_ ?_; rotate_left
  · (intro x hx; go_simp; first | done | with_reducible rfl | (rw [if_pos (by omega)]; try with_reducible rfl) | (rw [if_neg (by omega)]; try with_reducible rfl))
  try simp only [Act.put, List.setIfInBounds_toArray, List.set_cons_zero, List.set_cons_succ]
  refine rg_take (v := ?_) 21 rfl (by kernel_rfl) (by kernel_rfl) (by kernel_rfl) (fun _ _ _ h => h) (by rfl) ?_ ?_; rotate_left
  · (intro x hx; go_simp; first | done | with_reducible rfl | (rw [if_pos (by omega)]; try with_reducible rfl) | (rw [if_neg (by omega)]; try with_reducible rfl))
  try simp only [Act.put, List.setIfInBounds_toArray, List.set_cons_zero, List.set_cons_succ]
  refine rg_take (v := .agg (adC a)) 22 rfl (by kernel_rfl) (by kernel_rfl) (by kernel_rfl) (fun _ _ _ h => h) (by rfl) ?_ ?_
  · (intro x hx; apply run_load_big; (case ho => exact rfl); (case hv => exact rfl); (case hg => exact CA x hx); (case hu => exact Tryd.underlying24); (case hd => rfl); (case hi => kernel_rfl))
  try simp only [Act.put, List.setIfInBounds_toArray, List.set_cons_zero, List.set_cons_succ]
  refine rg_take (v := .agg (adC a)) 24 rfl (by kernel_rfl) (by kernel_rfl) (by kernel_rfl) (fun _ _ _ h => h) (by rfl) ?_ ?_
  · (intro x hx; apply run_load_big; (case ho => exact rfl); (case hv => exact rfl); (case hg => exact CA x hx); (case hu => exact Tryd.underlying24); (case hd => rfl); (case hi => kernel_rfl))
  try simp only [Act.put, List.setIfInBounds_toArray, List.set_cons_zero, List.set_cons_succ]
  refine rg_step 23 rfl (by kernel_rfl) (by rfl) (fun K hK => ?_)
  go_simp
  refine (text_any _ (HP.out.below (b3.trans (r6.mono b3.size))) a).mono ?_
  rw [HT.out]
  rintro e u7 ⟨rfl, p7⟩
  have r7 := r6.trans (p7.mono r6.size)
  have CN := Ext.at_ (M := fun _ => False) (w := u7) (below_at r7 N3 (heap_lt N3)) (fun h => h)
  have CR := Ext.at_ (M := fun _ => False) (w := u7) (below_at r7 R3 (heap_lt R3)) (fun h => h)
  have CA := Ext.at_ (M := fun _ => False) (w := u7) (below_at r7 P3 (heap_lt P3)) (fun h => h)
  have CX := Ext.at_ (M := fun _ => False) (w := u7) (below_at r7 X3 (heap_lt X3)) (fun h => h)
  have CM := Ext.at_ (M := fun _ => False) (w := u7) (below_at r7 M3 (heap_lt M3)) (fun h => h)
  refine hK.out _ _ (Ext.below_all _ p7) ?_
  clear hK K; try simp only [Act.put, List.setIfInBounds_toArray, List.set_cons_zero, List.set_cons_succ]
  refine rg_step 25 rfl (by kernel_rfl) (by rfl) (fun K hK => ?_)
  go_simp
  refine (rAddrText_any _ a).mono ?_
  rw [show SPost _ (textA a) = SPost _ T by rw [HT.out]]
  rintro e u8 ⟨rfl, p8⟩
  have r8 := r7.trans (p8.mono r7.size)
  have CN := Ext.at_ (M := fun _ => False) (w := u8) (below_at r8 N3 (heap_lt N3)) (fun h => h)
  have CR := Ext.at_ (M := fun _ => False) (w := u8) (below_at r8 R3 (heap_lt R3)) (fun h => h)
  have CA := Ext.at_ (M := fun _ => False) (w := u8) (below_at r8 P3 (heap_lt P3)) (fun h => h)
  have CX := Ext.at_ (M := fun _ => False) (w := u8) (below_at r8 X3 (heap_lt X3)) (fun h => h)
  have CM := Ext.at_ (M := fun _ => False) (w := u8) (below_at r8 M3 (heap_lt M3)) (fun h => h)
  refine hK.out _ _ (Ext.below_all _ p8) ?_
  clear hK K; try simp only [Act.put, List.setIfInBounds_toArray, List.set_cons_zero, List.set_cons_succ]
  refine rg_take (v := ?_) 26 rfl (by kernel_rfl) (by kernel_rfl) (by kernel_rfl) (fun _ _ _ h => h) (by rfl) ?_ ?_; rotate_left
  · (intro x hx; go_simp; first | done | with_reducible rfl | (rw [if_pos (by omega)]; try with_reducible rfl) | (rw [if_neg (by omega)]; try with_reducible rfl))
  try simp only [Act.put, List.setIfInBounds_toArray, List.set_cons_zero, List.set_cons_succ]
  refine rg_take (v := ?_) 27 rfl (by kernel_rfl) (by kernel_rfl) (by kernel_rfl) (fun _ _ _ h => h) (by rfl) ?_ ?_; rotate_left
  · (intro x hx; go_simp; first | done | with_reducible rfl | (rw [if_pos (by omega)]; try with_reducible rfl) | (rw [if_neg (by omega)]; try with_reducible rfl))
  try simp only [Act.put, List.setIfInBounds_toArray, List.set_cons_zero, List.set_cons_succ]
  refine rg_take (v := ?_) 28 rfl (by kernel_rfl) (by kernel_rfl) (by kernel_rfl) (fun _ _ _ h => h) (by rfl) ?_ ?_; rotate_left
  · (intro x hx; go_simp; first | done | with_reducible rfl | (rw [if_pos (by omega)]; try with_reducible rfl) | (rw [if_neg (by omega)]; try with_reducible rfl))
  try simp only [Act.put, List.setIfInBounds_toArray, List.set_cons_zero, List.set_cons_succ]
  refine rg_take (v := .agg (mxC m)) 29 rfl (by kernel_rfl) (by kernel_rfl) (by kernel_rfl) (fun _ _ _ h => h) (by rfl) ?_ ?_
  · (intro x hx; apply run_load_big; (case ho => exact rfl); (case hv => exact rfl); (case hg => exact CM x hx); (case hu => exact Tryd.underlying33); (case hd => rfl); (case hi => kernel_rfl))
  try simp only [Act.put, List.setIfInBounds_toArray, List.set_cons_zero, List.set_cons_succ]
  refine rg_take (v := .agg (mxC m)) 31 rfl (by kernel_rfl) (by kernel_rfl) (by kernel_rfl) (fun _ _ _ h => h) (by rfl) ?_ ?_
  · (intro x hx; apply run_load_big; (case ho => exact rfl); (case hv => exact rfl); (case hg => exact CM x hx); (case hu => exact Tryd.underlying33); (case hd => rfl); (case hi => kernel_rfl))
  try simp only [Act.put, List.setIfInBounds_toArray, List.set_cons_zero, List.set_cons_succ]
  refine rg_step 30 rfl (by kernel_rfl) (by rfl) (fun K hK => ?_)
  go_simp
  refine (macText_any _ m).mono ?_
  rw [HV.out]
  rintro e u9 ⟨rfl, p9⟩
  have r9 := r8.trans (p9.mono r8.size)
  have CN := Ext.at_ (M := fun _ => False) (w := u9) (below_at r9 N3 (heap_lt N3)) (fun h => h)
  have CR := Ext.at_ (M := fun _ => False) (w := u9) (below_at r9 R3 (heap_lt R3)) (fun h => h)
  have CA := Ext.at_ (M := fun _ => False) (w := u9) (below_at r9 P3 (heap_lt P3)) (fun h => h)
  have CX := Ext.at_ (M := fun _ => False) (w := u9) (below_at r9 X3 (heap_lt X3)) (fun h => h)
  have CM := Ext.at_ (M := fun _ => False) (w := u9) (below_at r9 M3 (heap_lt M3)) (fun h => h)
  refine hK.out _ _ (Ext.below_all _ p9) ?_
  clear hK K; try simp only [Act.put, List.setIfInBounds_toArray, List.set_cons_zero, List.set_cons_succ]
  refine rg_step 32 rfl (by kernel_rfl) (by rfl) (fun K hK => ?_)
  go_simp
  refine (rMacText_any _ m).mono ?_
  rw [show SPost _ (textM m) = SPost _ V by rw [HV.out]]
  rintro e u10 ⟨rfl, p10⟩
  have r10 := r9.trans (p10.mono r9.size)
  have CN := Ext.at_ (M := fun _ => False) (w := u10) (below_at r10 N3 (heap_lt N3)) (fun h => h)
  have CR := Ext.at_ (M := fun _ => False) (w := u10) (below_at r10 R3 (heap_lt R3)) (fun h => h)
  have CA := Ext.at_ (M := fun _ => False) (w := u10) (below_at r10 P3 (heap_lt P3)) (fun h => h)
  have CX := Ext.at_ (M := fun _ => False) (w := u10) (below_at r10 X3 (heap_lt X3)) (fun h => h)
  have CM := Ext.at_ (M := fun _ => False) (w := u10) (below_at r10 M3 (heap_lt M3)) (fun h => h)
  refine hK.out _ _ (Ext.below_all _ p10) ?_
  clear hK K; try simp only [Act.put, List.setIfInBounds_toArray, List.set_cons_zero, List.set_cons_succ]
  refine rg_take (v := ?_) 33 rfl (by kernel_rfl) (by kernel_rfl) (by kernel_rfl) (fun _ _ _ h => h) (by rfl) ?_ ?_; rotate_left
  · (intro x hx; go_simp; first | done | with_reducible rfl | (rw [if_pos (by omega)]; try with_reducible rfl) | (rw [if_neg (by omega)]; try with_reducible rfl))
  try simp only [Act.put, List.setIfInBounds_toArray, List.set_cons_zero, List.set_cons_succ]
  refine rg_take (v := ?_) 34 rfl (by kernel_rfl) (by kernel_rfl) (by kernel_rfl) (fun _ _ _ h => h) (by rfl) ?_ ?_; rotate_left
  · (intro x hx; go_simp; first | done | with_reducible rfl | (rw [if_pos (by omega)]; try with_reducible rfl) | (rw [if_neg (by omega)]; try with_reducible rfl))
  try simp only [Act.put, List.setIfInBounds_toArray, List.set_cons_zero, List.set_cons_succ]
  refine rg_take (v := ?_) 35 rfl (by kernel_rfl) (by kernel_rfl) (by kernel_rfl) (fun _ _ _ h => h) (by rfl) ?_ ?_; rotate_left
  · (intro x hx; go_simp; first | done | with_reducible rfl | (rw [if_pos (by omega)]; try with_reducible rfl) | (rw [if_neg (by omega)]; try with_reducible rfl))
  try simp only [Act.put, List.setIfInBounds_toArray, List.set_cons_zero, List.set_cons_succ]
  refine rg_take (v := .agg (adC a)) 36 rfl (by kernel_rfl) (by kernel_rfl) (by kernel_rfl) (fun _ _ _ h => h) (by rfl) ?_ ?_
  · (intro x hx; apply run_load_big; (case ho => exact rfl); (case hv => exact rfl); (case hg => exact CA x hx); (case hu => exact Tryd.underlying24); (case hd => rfl); (case hi => kernel_rfl))
  try simp only [Act.put, List.setIfInBounds_toArray, List.set_cons_zero, List.set_cons_succ]
  refine rg_take (v := .agg (adC a)) 38 rfl (by kernel_rfl) (by kernel_rfl) (by kernel_rfl) (fun _ _ _ h => h) (by rfl) ?_ ?_
  · (intro x hx; apply run_load_big; (case ho => exact rfl); (case hv => exact rfl); (case hg => exact CA x hx); (case hu => exact Tryd.underlying24); (case hd => rfl); (case hi => kernel_rfl))
  try simp only [Act.put, List.setIfInBounds_toArray, List.set_cons_zero, List.set_cons_succ]
  refine rg_step 37 rfl (by kernel_rfl) (by rfl) (fun K hK => ?_)
  go_simp
  refine (numa_any _ a).mono ?_
  rw [HN.out]
  rintro e u11 ⟨rfl, p11⟩
  have r11 := r10.trans (p11.mono r10.size)
  have CN := Ext.at_ (M := fun _ => False) (w := u11) (below_at r11 N3 (heap_lt N3)) (fun h => h)
  have CR := Ext.at_ (M := fun _ => False) (w := u11) (below_at r11 R3 (heap_lt R3)) (fun h => h)
  have CA := Ext.at_ (M := fun _ => False) (w := u11) (below_at r11 P3 (heap_lt P3)) (fun h => h)
  have CX := Ext.at_ (M := fun _ => False) (w := u11) (below_at r11 X3 (heap_lt X3)) (fun h => h)
  have CM := Ext.at_ (M := fun _ => False) (w := u11) (below_at r11 M3 (heap_lt M3)) (fun h => h)
  refine hK.out _ _ (Ext.below_all _ p11) ?_
  clear hK K; try simp only [Act.put, List.setIfInBounds_toArray, List.set_cons_zero, List.set_cons_succ]
  refine rg_step 39 rfl (by kernel_rfl) (by rfl) (fun K hK => ?_)
  go_simp
  refine (rnum_any _ a).mono ?_
  rw [HN.out]
  rintro e u12 ⟨rfl, p12⟩
  have r12 := r11.trans (p12.mono r11.size)
  have CN := Ext.at_ (M := fun _ => False) (w := u12) (below_at r12 N3 (heap_lt N3)) (fun h => h)
  have CR := Ext.at_ (M := fun _ => False) (w := u12) (below_at r12 R3 (heap_lt R3)) (fun h => h)
  have CA := Ext.at_ (M := fun _ => False) (w := u12) (below_at r12 P3 (heap_lt P3)) (fun h => h)
  have CX := Ext.at_ (M := fun _ => False) (w := u12) (below_at r12 X3 (heap_lt X3)) (fun h => h)
  have CM := Ext.at_ (M := fun _ => False) (w := u12) (below_at r12 M3 (heap_lt M3)) (fun h => h)
  refine hK.out _ _ (Ext.below_all _ p12) ?_
  clear hK K; try simp only [Act.put, List.setIfInBounds_toArray, List.set_cons_zero, List.set_cons_succ]
  refine rg_take (v := ?_) 40 rfl (by kernel_rfl) (by kernel_rfl) (by kernel_rfl) (fun _ _ _ h => h) (by rfl) ?_ ?_; rotate_left
  · (intro x hx; go_simp; first | done | with_reducible rfl | (rw [if_pos (by omega)]; try with_reducible rfl) | (rw [if_neg (by omega)]; try with_reducible rfl))
  try simp only [Act.put, List.setIfInBounds_toArray, List.set_cons_zero, List.set_cons_succ]
  refine rg_take (v := ?_) 41 rfl (by kernel_rfl) (by kernel_rfl) (by kernel_rfl) (fun _ _ _ h => h) (by rfl) ?_ ?_; rotate_left
  · (intro x hx; go_simp; first | done | with_reducible rfl | (rw [if_pos (by omega)]; try with_reducible rfl) | (rw [if_neg (by omega)]; try with_reducible rfl))
  try simp only [Act.put, List.setIfInBounds_toArray, List.set_cons_zero, List.set_cons_succ]
  refine rg_take (v := ?_) 42 rfl (by kernel_rfl) (by kernel_rfl) (by kernel_rfl) (fun _ _ _ h => h) (by rfl) ?_ ?_; rotate_left
  · (intro x hx; go_simp; first | done | with_reducible rfl | (rw [if_pos (by omega)]; try with_reducible rfl) | (rw [if_neg (by omega)]; try with_reducible rfl))
  try simp only [Act.put, List.setIfInBounds_toArray, List.set_cons_zero, List.set_cons_succ]
  refine rg_take (v := .agg (adC a)) 43 rfl (by kernel_rfl) (by kernel_rfl) (by kernel_rfl) (fun _ _ _ h => h) (by rfl) ?_ ?_
  · (intro x hx; apply run_load_big; (case ho => exact rfl); (case hv => exact rfl); (case hg => exact CA x hx); (case hu => exact Tryd.underlying24); (case hd => rfl); (case hi => kernel_rfl))
  try simp only [Act.put, List.setIfInBounds_toArray, List.set_cons_zero, List.set_cons_succ]
  refine rg_take (v := .agg (adC a)) 46 rfl (by kernel_rfl) (by kernel_rfl) (by kernel_rfl) (fun _ _ _ h => h) (by rfl) ?_ ?_
  · (intro x hx; apply run_load_big; (case ho => exact rfl); (case hv => exact rfl); (case hg => exact CA x hx); (case hu => exact Tryd.underlying24); (case hd => rfl); (case hi => kernel_rfl))
  try simp only [Act.put, List.setIfInBounds_toArray, List.set_cons_zero, List.set_cons_succ]
  refine rg_step 44 rfl (by kernel_rfl) (by rfl) (fun K hK => ?_)
  go_simp
  refine (numa_any _ a).mono ?_
  rw [HN.out]
  rintro e u13 ⟨rfl, p13⟩
  have r13 := r12.trans (p13.mono r12.size)
  have CN := Ext.at_ (M := fun _ => False) (w := u13) (below_at r13 N3 (heap_lt N3)) (fun h => h)
  have CR := Ext.at_ (M := fun _ => False) (w := u13) (below_at r13 R3 (heap_lt R3)) (fun h => h)
  have CA := Ext.at_ (M := fun _ => False) (w := u13) (below_at r13 P3 (heap_lt P3)) (fun h => h)
  have CX := Ext.at_ (M := fun _ => False) (w := u13) (below_at r13 X3 (heap_lt X3)) (fun h => h)
  have CM := Ext.at_ (M := fun _ => False) (w := u13) (below_at r13 M3 (heap_lt M3)) (fun h => h)
  refine hK.out _ _ (Ext.below_all _ p13) ?_
  clear hK K; try simp only [Act.put, List.setIfInBounds_toArray, List.set_cons_zero, List.set_cons_succ]
  refine rg_step 45 rfl (by kernel_rfl) (by rfl) (fun K hK => ?_)
  go_simp
  refine (ofa_any _ (n : Int) (by omega) (by omega)).mono ?_
  rw [HO.out]
  rintro e u14 ⟨rfl, p14⟩
  have r14 := r13.trans (p14.mono r13.size)
  have CN := Ext.at_ (M := fun _ => False) (w := u14) (below_at r14 N3 (heap_lt N3)) (fun h => h)
  have CR := Ext.at_ (M := fun _ => False) (w := u14) (below_at r14 R3 (heap_lt R3)) (fun h => h)
  have CA := Ext.at_ (M := fun _ => False) (w := u14) (below_at r14 P3 (heap_lt P3)) (fun h => h)
  have CX := Ext.at_ (M := fun _ => False) (w := u14) (below_at r14 X3 (heap_lt X3)) (fun h => h)
  have CM := Ext.at_ (M := fun _ => False) (w := u14) (below_at r14 M3 (heap_lt M3)) (fun h => h)
  refine hK.out _ _ (Ext.below_all _ p14) ?_
  clear hK K; try simp only [Act.put, List.setIfInBounds_toArray, List.set_cons_zero, List.set_cons_succ]
  refine rg_take (v := ?_) 47 rfl (by kernel_rfl) (by kernel_rfl) (by kernel_rfl) (fun _ _ _ h => h) (by rfl) ?_ ?_; rotate_left
  · (intro x hx; go_simp; first | done | with_reducible rfl | (rw [if_pos (by omega)]; try with_reducible rfl) | (rw [if_neg (by omega)]; try with_reducible rfl))
  try simp only [Act.put, List.setIfInBounds_toArray, List.set_cons_zero, List.set_cons_succ]
  refine rg_take (v := ?_) 48 rfl (by kernel_rfl) (by kernel_rfl) (by kernel_rfl) (fun _ _ _ h => h) (by rfl) ?_ ?_; rotate_left
  · (intro x hx; go_simp; first | done | with_reducible rfl | (rw [if_pos (by omega)]; try with_reducible rfl) | (rw [if_neg (by omega)]; try with_reducible rfl))
  try simp only [Act.put, List.setIfInBounds_toArray, List.set_cons_zero, List.set_cons_succ]
  refine rg_take (v := ?_) 49 rfl (by kernel_rfl) (by kernel_rfl) (by kernel_rfl) (fun _ _ _ h => h) (by rfl) ?_ ?_; rotate_left
  · (intro x hx; go_simp; first | done | with_reducible rfl | (rw [if_pos (by omega)]; try with_reducible rfl) | (rw [if_neg (by omega)]; try with_reducible rfl))
  try simp only [Act.put, List.setIfInBounds_toArray, List.set_cons_zero, List.set_cons_succ]
  refine rg_done (by kernel_rfl) ?_
  go_wp2_with fail
  go_ret
  exact ⟨rfl, b3.trans (r14.mono b3.size)⟩
end Go.Proofs.YtabmgggmailomaaDoor
