/-
  The reference's Check: its walk.
-/
import Derived.Test.YtnmdiageigbphaaGreatDoorRe2
namespace Go.Proofs.YtnmdiageigbphaaGreatDoor
open Go.RowKit

structure CkI (w : World) (g : Nat) (cs : Array Value) (wr : World) : Prop where
  P : wr.heap[g]? = some (.cells cs 40 (0, 0))
  b : Below w.heap.size w wr
theorem CkI.next {w wr w' : World} {g : Nat} {cs : Array Value} (I : CkI w g cs wr) (q : Below wr.heap.size wr w') : CkI w g cs w' :=
  ⟨below_at q I.P (heap_lt I.P), I.b.trans (q.mono I.b.size)⟩
section
variable {c : Cf} {lf : List Fx} {lo : List Opn}
theorem ck_no1 (h : rnetB c = false) : checkG ⟨c, lf, lo⟩ = false := by rw [checkG]; simp only; rw [← rnetB_eq, h]; rfl
theorem ck_no2 (h : poolB c = false) : checkG ⟨c, lf, lo⟩ = false := by rw [checkG]; simp only; rw [h]; simp
theorem ck_no3 (h : (timesB c && decide (lf.length ≤ 32) && decide (lo.length ≤ 32)) = false) : checkG ⟨c, lf, lo⟩ = false := by
  simp only [Bool.and_eq_false_iff] at h
  rw [checkG]
  simp only
  rcases h with (h | h) | h
  · rw [h]; simp
  · rw [fixB, h]; simp
  · rw [opnB, h]; simp
theorem ck_no4 (h : lf.length ≤ 32) {i : Nat} (hi : ¬ goodF c lf i) : checkG ⟨c, lf, lo⟩ = false := by
  have h1 : fixB c lf = false := by
    rw [Bool.eq_false_iff]
    intro e
    exact hi ((fixB_iff c lf h).1 e i)
  rw [checkG]
  simp only
  rw [h1]
  simp
theorem ck_no5 (h : lo.length ≤ 32) (hw : ∀ f ∈ lo, wfOp f) {i : Nat} (hi : ¬ goodO c lo i) : checkG ⟨c, lf, lo⟩ = false := by
  have h1 : opnB c lo = false := by
    rw [Bool.eq_false_iff]
    intro e
    exact hi ((opnB_iff c lo h hw).1 e i)
  rw [checkG]
  simp only
  rw [h1]
  simp
theorem ck_yes (h1 : rnetB c = true) (h2 : poolB c = true) (h3 : (timesB c && decide (lf.length ≤ 32) && decide (lo.length ≤ 32)) = true) (hw : ∀ f ∈ lo, wfOp f) (h4 : ∀ i, i < lf.length → goodF c lf i) (h5 : ∀ i, i < lo.length → goodO c lo i) :
    checkG ⟨c, lf, lo⟩ = true := by
  simp only [Bool.and_eq_true, decide_eq_true_eq] at h3
  have h6 : fixB c lf = true := (fixB_iff c lf h3.1.2).2 fun i => by
    rcases Nat.lt_or_ge i lf.length with h | h
    · exact h4 i h
    · intro f hf; rw [List.getElem?_eq_none h] at hf; cases hf
  have h7 : opnB c lo = true := (opnB_iff c lo h3.2 hw).2 fun i => by
    rcases Nat.lt_or_ge i lo.length with h | h
    · exact h5 i h
    · intro f hf; rw [List.getElem?_eq_none h] at hf; cases hf
  rw [checkG]
  simp only
  rw [← rnetB_eq, h1, h2, h3.1.1, h6, h7]
  rfl
end
set_option maxRecDepth 100000 in
set_option maxHeartbeats 16000000 in
theorem rcheck_any (w : World) (c : Cf) (lf : List Fx) (lo : List Opn) (A : Option Addr) (n k : Nat) (A2 : Option Addr) (n2 k2 : Nat) (hC : CR w w.heap.size ⟨c, lf, lo⟩ A n A2 n2) :
    Calls Tryz.prog 14 #[.agg (cfC c (.slice A n k) (.slice A2 n2 k2))] w (fun e w' => e = .returned (.bool (checkG ⟨c, lf, lo⟩)) ∧ Below w.heap.size w w') := by
  have HR := Lib.hid hC
  have hn : n = lf.length := hC.nf
  have hn2 : n2 = lo.length := hC.no
  have P0 := heap_alloc_new w (.cells (cfC c (.slice A n k) (.slice A2 n2 k2)) 40)
  have b0 : Below w.heap.size w (w.alloc (.cells (cfC c (.slice A n k) (.slice A2 n2 k2)) 40)) := (Below.refl _ w).alloc (Nat.le_refl _) _
  have HN := Lib.hid (⟨hn, hn2⟩ : _ ∧ _)
  clear hn hn2 hC
  go_enter Tryz.func14, Tryz.ntmps14
  go_upto_region 1 with fail
  generalize w.alloc (.cells (cfC c (.slice A n k) (.slice A2 n2 k2)) 40) = w0 at P0 b0 ⊢
  obtain ⟨g, hg⟩ : ∃ g, w.heap.size = g := ⟨_, rfl⟩
  have HB0 := Lib.hid b0
  rw [hg] at P0 ⊢
  have HG := Lib.hid hg
  clear hg b0
  go_cut [42] (fun v wx => v = .bool (!rnetB c) ∧ Below w0.heap.size w0 wx)
  case first =>
   as_aux_lemma =>
    have hB : rnetB c = (inR c.lanB 8 30 && adeq c.lanA (firstA c.lanA c.lanB) && inB c c.own && !grpB c.lm && !grpB c.wm) := rfl
    have nn := fun w => run_neq_ad w c.lanA (firstA c.lanA c.lanB)
    obtain ⟨t1, h1⟩ : ∃ b, inR c.lanB 8 30 = b := ⟨_, rfl⟩
    obtain ⟨t2, h2⟩ : ∃ b, adeq c.lanA (firstA c.lanA c.lanB) = b := ⟨_, rfl⟩
    obtain ⟨t3, h3⟩ : ∃ b, inB c c.own = b := ⟨_, rfl⟩
    obtain ⟨t4, h4⟩ : ∃ b, grpB c.lm = b := ⟨_, rfl⟩
    obtain ⟨t5, h5⟩ : ∃ b, grpB c.wm = b := ⟨_, rfl⟩
    rw [h1, h2, h3, h4, h5] at hB
    simp only [h2] at nn
    have E1 := Lib.hid h1
    have E3 := Lib.hid h3
    have E4 := Lib.hid h4
    have E5 := Lib.hid h5
    have HB := Lib.hid hB
    clear h1 h2 h3 h4 h5 hB
    have r0 : Below w0.heap.size w0 w0.drew := (Below.refl _ _).drew
    have f0 := Ext.cells (w := w0.drew) (M := fun _ => False) P0 (fun h => h)
    have CC := Ext.at_ (M := fun _ => False) (w := w0.drew) P0 (fun h => h)
    refine rg_begin (fun _ => False) (by kernel_rfl) ?_
    refine rg_take (v := ?_) 0 rfl (by kernel_rfl) (by kernel_rfl) (by kernel_rfl) (fun _ _ _ h => h) (by rfl) ?_ ?_; rotate_left
    · (intro x hx; go_simp; first | done | with_reducible rfl | (rw [if_pos (by omega)]; try with_reducible rfl) | (rw [if_neg (by omega)]; try with_reducible rfl))
    try simp only [Act.put, List.setIfInBounds_toArray, List.set_cons_zero, List.set_cons_succ]
    refine rg_take (v := ?_) 1 rfl (by kernel_rfl) (by kernel_rfl) (by kernel_rfl) (fun _ _ _ h => h) (by rfl) ?_ ?_; rotate_left
    · (intro x hx; go_simp; first | done | with_reducible rfl | (rw [if_pos (by omega)]; try with_reducible rfl) | (rw [if_neg (by omega)]; try with_reducible rfl))
    try simp only [Act.put, List.setIfInBounds_toArray, List.set_cons_zero, List.set_cons_succ]
    refine rg_take (v := ?_) 2 rfl (by kernel_rfl) (by kernel_rfl) (by kernel_rfl) (fun _ _ _ h => h) (by rfl) ?_ ?_; rotate_left
    · (intro x hx; go_simp; first | done | with_reducible rfl | (rw [if_pos (by omega)]; try with_reducible rfl) | (rw [if_neg (by omega)]; try with_reducible rfl))
    try simp only [Act.put, List.setIfInBounds_toArray, List.set_cons_zero, List.set_cons_succ]
    refine rg_step 3 rfl (by kernel_rfl) (by rfl) (fun K hK => ?_)
    go_simp
    refine (rin_any _ c.lanB 8 30).mono ?_
    rw [E1.out]
    rintro e u1 ⟨rfl, rfl⟩
    refine hK.out _ _ (Ext.refl _ _) ?_
    clear hK K; try simp only [Act.put, List.setIfInBounds_toArray, List.set_cons_zero, List.set_cons_succ]
    refine rg_take (v := ?_) 4 rfl (by kernel_rfl) (by kernel_rfl) (by kernel_rfl) (fun _ _ _ h => h) (by rfl) ?_ ?_; rotate_left
    · (intro x hx; go_simp; first | done | with_reducible rfl | (rw [if_pos (by omega)]; try with_reducible rfl) | (rw [if_neg (by omega)]; try with_reducible rfl))
    try simp only [Act.put, List.setIfInBounds_toArray, List.set_cons_zero, List.set_cons_succ]
    refine rg_take (v := ?_) 5 rfl (by kernel_rfl) (by kernel_rfl) (by kernel_rfl) (fun _ _ _ h => h) (by rfl) ?_ ?_; rotate_left
    · (intro x hx; go_simp; first | done | with_reducible rfl | (rw [if_pos (by omega)]; try with_reducible rfl) | (rw [if_neg (by omega)]; try with_reducible rfl))
    try simp only [Act.put, List.setIfInBounds_toArray, List.set_cons_zero, List.set_cons_succ]
    rcases t1 with _ | _
    · refine rg_skip 6 rfl (by kernel_rfl) (by kernel_rfl) (by kernel_rfl) (fun _ _ _ h => h) (by rfl) ?_; simp only [Act.put, List.setIfInBounds_toArray, List.set_cons_zero, List.set_cons_succ]
      refine rg_skip 7 rfl (by kernel_rfl) (by kernel_rfl) (by kernel_rfl) (fun _ _ _ h => h) (by rfl) ?_; simp only [Act.put, List.setIfInBounds_toArray, List.set_cons_zero, List.set_cons_succ]
      refine rg_skip 8 rfl (by kernel_rfl) (by kernel_rfl) (by kernel_rfl) (fun _ _ _ h => h) (by rfl) ?_; simp only [Act.put, List.setIfInBounds_toArray, List.set_cons_zero, List.set_cons_succ]
      refine rg_skip 9 rfl (by kernel_rfl) (by kernel_rfl) (by kernel_rfl) (fun _ _ _ h => h) (by rfl) ?_; simp only [Act.put, List.setIfInBounds_toArray, List.set_cons_zero, List.set_cons_succ]
      refine rg_skip 10 rfl (by kernel_rfl) (by kernel_rfl) (by kernel_rfl) (fun _ _ _ h => h) (by rfl) ?_; simp only [Act.put, List.setIfInBounds_toArray, List.set_cons_zero, List.set_cons_succ]
      refine rg_skip 11 rfl (by kernel_rfl) (by kernel_rfl) (by kernel_rfl) (fun _ _ _ h => h) (by rfl) ?_; simp only [Act.put, List.setIfInBounds_toArray, List.set_cons_zero, List.set_cons_succ]
      refine rg_skip 12 rfl (by kernel_rfl) (by kernel_rfl) (by kernel_rfl) (fun _ _ _ h => h) (by rfl) ?_; simp only [Act.put, List.setIfInBounds_toArray, List.set_cons_zero, List.set_cons_succ]
      refine rg_take (v := ?_) 13 rfl (by kernel_rfl) (by kernel_rfl) (by kernel_rfl) (fun _ _ _ h => h) (by rfl) ?_ ?_; rotate_left
      · (intro x hx; go_simp; first | done | with_reducible rfl | (rw [if_pos (by omega)]; try with_reducible rfl) | (rw [if_neg (by omega)]; try with_reducible rfl))
      try simp only [Act.put, List.setIfInBounds_toArray, List.set_cons_zero, List.set_cons_succ]
      refine rg_take (v := ?_) 14 rfl (by kernel_rfl) (by kernel_rfl) (by kernel_rfl) (fun _ _ _ h => h) (by rfl) ?_ ?_; rotate_left
      · (intro x hx; go_simp; first | done | with_reducible rfl | (rw [if_pos (by omega)]; try with_reducible rfl) | (rw [if_neg (by omega)]; try with_reducible rfl))
      try simp only [Act.put, List.setIfInBounds_toArray, List.set_cons_zero, List.set_cons_succ]
      refine rg_skip 15 rfl (by kernel_rfl) (by kernel_rfl) (by kernel_rfl) (fun _ _ _ h => h) (by rfl) ?_; simp only [Act.put, List.setIfInBounds_toArray, List.set_cons_zero, List.set_cons_succ]
      refine rg_skip 16 rfl (by kernel_rfl) (by kernel_rfl) (by kernel_rfl) (fun _ _ _ h => h) (by rfl) ?_; simp only [Act.put, List.setIfInBounds_toArray, List.set_cons_zero, List.set_cons_succ]
      refine rg_skip 17 rfl (by kernel_rfl) (by kernel_rfl) (by kernel_rfl) (fun _ _ _ h => h) (by rfl) ?_; simp only [Act.put, List.setIfInBounds_toArray, List.set_cons_zero, List.set_cons_succ]
      refine rg_skip 18 rfl (by kernel_rfl) (by kernel_rfl) (by kernel_rfl) (fun _ _ _ h => h) (by rfl) ?_; simp only [Act.put, List.setIfInBounds_toArray, List.set_cons_zero, List.set_cons_succ]
      refine rg_skip 19 rfl (by kernel_rfl) (by kernel_rfl) (by kernel_rfl) (fun _ _ _ h => h) (by rfl) ?_; simp only [Act.put, List.setIfInBounds_toArray, List.set_cons_zero, List.set_cons_succ]
      refine rg_take (v := ?_) 20 rfl (by kernel_rfl) (by kernel_rfl) (by kernel_rfl) (fun _ _ _ h => h) (by rfl) ?_ ?_; rotate_left
      · (intro x hx; go_simp; first | done | with_reducible rfl | (rw [if_pos (by omega)]; try with_reducible rfl) | (rw [if_neg (by omega)]; try with_reducible rfl))
      try simp only [Act.put, List.setIfInBounds_toArray, List.set_cons_zero, List.set_cons_succ]
      refine rg_take (v := ?_) 21 rfl (by kernel_rfl) (by kernel_rfl) (by kernel_rfl) (fun _ _ _ h => h) (by rfl) ?_ ?_; rotate_left
      · (intro x hx; go_simp; first | done | with_reducible rfl | (rw [if_pos (by omega)]; try with_reducible rfl) | (rw [if_neg (by omega)]; try with_reducible rfl))
      try simp only [Act.put, List.setIfInBounds_toArray, List.set_cons_zero, List.set_cons_succ]
      refine rg_skip 22 rfl (by kernel_rfl) (by kernel_rfl) (by kernel_rfl) (fun _ _ _ h => h) (by rfl) ?_; simp only [Act.put, List.setIfInBounds_toArray, List.set_cons_zero, List.set_cons_succ]
      refine rg_skip 23 rfl (by kernel_rfl) (by kernel_rfl) (by kernel_rfl) (fun _ _ _ h => h) (by rfl) ?_; simp only [Act.put, List.setIfInBounds_toArray, List.set_cons_zero, List.set_cons_succ]
      refine rg_skip 24 rfl (by kernel_rfl) (by kernel_rfl) (by kernel_rfl) (fun _ _ _ h => h) (by rfl) ?_; simp only [Act.put, List.setIfInBounds_toArray, List.set_cons_zero, List.set_cons_succ]
      refine rg_take (v := ?_) 25 rfl (by kernel_rfl) (by kernel_rfl) (by kernel_rfl) (fun _ _ _ h => h) (by rfl) ?_ ?_; rotate_left
      · (intro x hx; go_simp; first | done | with_reducible rfl | (rw [if_pos (by omega)]; try with_reducible rfl) | (rw [if_neg (by omega)]; try with_reducible rfl))
      try simp only [Act.put, List.setIfInBounds_toArray, List.set_cons_zero, List.set_cons_succ]
      refine rg_take (v := ?_) 26 rfl (by kernel_rfl) (by kernel_rfl) (by kernel_rfl) (fun _ _ _ h => h) (by rfl) ?_ ?_; rotate_left
      · (intro x hx; go_simp; first | done | with_reducible rfl | (rw [if_pos (by omega)]; try with_reducible rfl) | (rw [if_neg (by omega)]; try with_reducible rfl))
      try simp only [Act.put, List.setIfInBounds_toArray, List.set_cons_zero, List.set_cons_succ]
      refine rg_skip 27 rfl (by kernel_rfl) (by kernel_rfl) (by kernel_rfl) (fun _ _ _ h => h) (by rfl) ?_; simp only [Act.put, List.setIfInBounds_toArray, List.set_cons_zero, List.set_cons_succ]
      refine rg_skip 28 rfl (by kernel_rfl) (by kernel_rfl) (by kernel_rfl) (fun _ _ _ h => h) (by rfl) ?_; simp only [Act.put, List.setIfInBounds_toArray, List.set_cons_zero, List.set_cons_succ]
      refine rg_skip 29 rfl (by kernel_rfl) (by kernel_rfl) (by kernel_rfl) (fun _ _ _ h => h) (by rfl) ?_; simp only [Act.put, List.setIfInBounds_toArray, List.set_cons_zero, List.set_cons_succ]
      refine rg_take (v := ?_) 30 rfl (by kernel_rfl) (by kernel_rfl) (by kernel_rfl) (fun _ _ _ h => h) (by rfl) ?_ ?_; rotate_left
      · (intro x hx; go_simp; first | done | with_reducible rfl | (rw [if_pos (by omega)]; try with_reducible rfl) | (rw [if_neg (by omega)]; try with_reducible rfl))
      try simp only [Act.put, List.setIfInBounds_toArray, List.set_cons_zero, List.set_cons_succ]
      refine rg_done (by kernel_rfl) ?_
      --TAIL
      go_wp2_with fail
      go_meet
      exact ⟨by rw [HB.out]; first | rfl | (simp; done) | (simp; omega), r0⟩
    · refine rg_take (v := ?_) 6 rfl (by kernel_rfl) (by kernel_rfl) (by kernel_rfl) (fun _ _ _ h => h) (by rfl) ?_ ?_; rotate_left
      · (intro x hx; go_simp; first | done | with_reducible rfl | (rw [if_pos (by omega)]; try with_reducible rfl) | (rw [if_neg (by omega)]; try with_reducible rfl))
      try simp only [Act.put, List.setIfInBounds_toArray, List.set_cons_zero, List.set_cons_succ]
      refine rg_take (v := ?_) 7 rfl (by kernel_rfl) (by kernel_rfl) (by kernel_rfl) (fun _ _ _ h => h) (by rfl) ?_ ?_; rotate_left
      · (intro x hx; go_simp; first | done | with_reducible rfl | (rw [if_pos (by omega)]; try with_reducible rfl) | (rw [if_neg (by omega)]; try with_reducible rfl))
      try simp only [Act.put, List.setIfInBounds_toArray, List.set_cons_zero, List.set_cons_succ]
      refine rg_take (v := ?_) 8 rfl (by kernel_rfl) (by kernel_rfl) (by kernel_rfl) (fun _ _ _ h => h) (by rfl) ?_ ?_; rotate_left
      · (intro x hx; go_simp; first | done | with_reducible rfl | (rw [if_pos (by omega)]; try with_reducible rfl) | (rw [if_neg (by omega)]; try with_reducible rfl))
      try simp only [Act.put, List.setIfInBounds_toArray, List.set_cons_zero, List.set_cons_succ]
      refine rg_take (v := ?_) 9 rfl (by kernel_rfl) (by kernel_rfl) (by kernel_rfl) (fun _ _ _ h => h) (by rfl) ?_ ?_; rotate_left
      · (intro x hx; go_simp; first | done | with_reducible rfl | (rw [if_pos (by omega)]; try with_reducible rfl) | (rw [if_neg (by omega)]; try with_reducible rfl))
      try simp only [Act.put, List.setIfInBounds_toArray, List.set_cons_zero, List.set_cons_succ]
      refine rg_take (v := ?_) 10 rfl (by kernel_rfl) (by kernel_rfl) (by kernel_rfl) (fun _ _ _ h => h) (by rfl) ?_ ?_; rotate_left
      · (intro x hx; go_simp; first | done | with_reducible rfl | (rw [if_pos (by omega)]; try with_reducible rfl) | (rw [if_neg (by omega)]; try with_reducible rfl))
      try simp only [Act.put, List.setIfInBounds_toArray, List.set_cons_zero, List.set_cons_succ]
      refine rg_step 11 rfl (by kernel_rfl) (by rfl) (fun K hK => ?_)
      go_simp
      refine (rfirst_any _ c.lanA c.lanB).mono ?_
      rintro e u1 ⟨rfl, p1⟩
      replace r0 := r0.trans (p1.mono r0.size)
      have f0 := Ext.cells (w := u1) (M := fun _ => False) (below_at r0 P0 (heap_lt P0)) (fun h => h)
      have CC := Ext.at_ (M := fun _ => False) (w := u1) (below_at r0 P0 (heap_lt P0)) (fun h => h)
      refine hK.out _ _ (Ext.below_all _ p1) ?_
      clear hK K; try simp only [Act.put, List.setIfInBounds_toArray, List.set_cons_zero, List.set_cons_succ]
      refine rg_take (v := ?_) 12 rfl (by kernel_rfl) (by kernel_rfl) (by kernel_rfl) (fun _ _ _ h => h) (by rfl) ?_ ?_; rotate_left
      · (intro x hx; go_simp; first | done | with_reducible rfl | (rw [if_pos (by omega)]; try with_reducible rfl) | (rw [if_neg (by omega)]; try with_reducible rfl))
      try simp only [Act.put, List.setIfInBounds_toArray, List.set_cons_zero, List.set_cons_succ]
      refine rg_take (v := ?_) 13 rfl (by kernel_rfl) (by kernel_rfl) (by kernel_rfl) (fun _ _ _ h => h) (by rfl) ?_ ?_; rotate_left
      · (intro x hx; go_simp; first | done | with_reducible rfl | (rw [if_pos (by omega)]; try with_reducible rfl) | (rw [if_neg (by omega)]; try with_reducible rfl))
      try simp only [Act.put, List.setIfInBounds_toArray, List.set_cons_zero, List.set_cons_succ]
      refine rg_take (v := ?_) 14 rfl (by kernel_rfl) (by kernel_rfl) (by kernel_rfl) (fun _ _ _ h => h) (by rfl) ?_ ?_; rotate_left
      · (intro x hx; go_simp; first | done | with_reducible rfl | (rw [if_pos (by omega)]; try with_reducible rfl) | (rw [if_neg (by omega)]; try with_reducible rfl))
      try simp only [Act.put, List.setIfInBounds_toArray, List.set_cons_zero, List.set_cons_succ]
      rcases t2 with _ | _
      · refine rg_skip 15 rfl (by kernel_rfl) (by kernel_rfl) (by kernel_rfl) (fun _ _ _ h => h) (by rfl) ?_; simp only [Act.put, List.setIfInBounds_toArray, List.set_cons_zero, List.set_cons_succ]
        refine rg_skip 16 rfl (by kernel_rfl) (by kernel_rfl) (by kernel_rfl) (fun _ _ _ h => h) (by rfl) ?_; simp only [Act.put, List.setIfInBounds_toArray, List.set_cons_zero, List.set_cons_succ]
        refine rg_skip 17 rfl (by kernel_rfl) (by kernel_rfl) (by kernel_rfl) (fun _ _ _ h => h) (by rfl) ?_; simp only [Act.put, List.setIfInBounds_toArray, List.set_cons_zero, List.set_cons_succ]
        refine rg_skip 18 rfl (by kernel_rfl) (by kernel_rfl) (by kernel_rfl) (fun _ _ _ h => h) (by rfl) ?_; simp only [Act.put, List.setIfInBounds_toArray, List.set_cons_zero, List.set_cons_succ]
        refine rg_skip 19 rfl (by kernel_rfl) (by kernel_rfl) (by kernel_rfl) (fun _ _ _ h => h) (by rfl) ?_; simp only [Act.put, List.setIfInBounds_toArray, List.set_cons_zero, List.set_cons_succ]
        refine rg_take (v := ?_) 20 rfl (by kernel_rfl) (by kernel_rfl) (by kernel_rfl) (fun _ _ _ h => h) (by rfl) ?_ ?_; rotate_left
        · (intro x hx; go_simp; first | done | with_reducible rfl | (rw [if_pos (by omega)]; try with_reducible rfl) | (rw [if_neg (by omega)]; try with_reducible rfl))
        try simp only [Act.put, List.setIfInBounds_toArray, List.set_cons_zero, List.set_cons_succ]
        refine rg_take (v := ?_) 21 rfl (by kernel_rfl) (by kernel_rfl) (by kernel_rfl) (fun _ _ _ h => h) (by rfl) ?_ ?_; rotate_left
        · (intro x hx; go_simp; first | done | with_reducible rfl | (rw [if_pos (by omega)]; try with_reducible rfl) | (rw [if_neg (by omega)]; try with_reducible rfl))
        try simp only [Act.put, List.setIfInBounds_toArray, List.set_cons_zero, List.set_cons_succ]
        refine rg_skip 22 rfl (by kernel_rfl) (by kernel_rfl) (by kernel_rfl) (fun _ _ _ h => h) (by rfl) ?_; simp only [Act.put, List.setIfInBounds_toArray, List.set_cons_zero, List.set_cons_succ]
        refine rg_skip 23 rfl (by kernel_rfl) (by kernel_rfl) (by kernel_rfl) (fun _ _ _ h => h) (by rfl) ?_; simp only [Act.put, List.setIfInBounds_toArray, List.set_cons_zero, List.set_cons_succ]
        refine rg_skip 24 rfl (by kernel_rfl) (by kernel_rfl) (by kernel_rfl) (fun _ _ _ h => h) (by rfl) ?_; simp only [Act.put, List.setIfInBounds_toArray, List.set_cons_zero, List.set_cons_succ]
        refine rg_take (v := ?_) 25 rfl (by kernel_rfl) (by kernel_rfl) (by kernel_rfl) (fun _ _ _ h => h) (by rfl) ?_ ?_; rotate_left
        · (intro x hx; go_simp; first | done | with_reducible rfl | (rw [if_pos (by omega)]; try with_reducible rfl) | (rw [if_neg (by omega)]; try with_reducible rfl))
        try simp only [Act.put, List.setIfInBounds_toArray, List.set_cons_zero, List.set_cons_succ]
        refine rg_take (v := ?_) 26 rfl (by kernel_rfl) (by kernel_rfl) (by kernel_rfl) (fun _ _ _ h => h) (by rfl) ?_ ?_; rotate_left
        · (intro x hx; go_simp; first | done | with_reducible rfl | (rw [if_pos (by omega)]; try with_reducible rfl) | (rw [if_neg (by omega)]; try with_reducible rfl))
        try simp only [Act.put, List.setIfInBounds_toArray, List.set_cons_zero, List.set_cons_succ]
        refine rg_skip 27 rfl (by kernel_rfl) (by kernel_rfl) (by kernel_rfl) (fun _ _ _ h => h) (by rfl) ?_; simp only [Act.put, List.setIfInBounds_toArray, List.set_cons_zero, List.set_cons_succ]
        refine rg_skip 28 rfl (by kernel_rfl) (by kernel_rfl) (by kernel_rfl) (fun _ _ _ h => h) (by rfl) ?_; simp only [Act.put, List.setIfInBounds_toArray, List.set_cons_zero, List.set_cons_succ]
        refine rg_skip 29 rfl (by kernel_rfl) (by kernel_rfl) (by kernel_rfl) (fun _ _ _ h => h) (by rfl) ?_; simp only [Act.put, List.setIfInBounds_toArray, List.set_cons_zero, List.set_cons_succ]
        refine rg_take (v := ?_) 30 rfl (by kernel_rfl) (by kernel_rfl) (by kernel_rfl) (fun _ _ _ h => h) (by rfl) ?_ ?_; rotate_left
        · (intro x hx; go_simp; first | done | with_reducible rfl | (rw [if_pos (by omega)]; try with_reducible rfl) | (rw [if_neg (by omega)]; try with_reducible rfl))
        try simp only [Act.put, List.setIfInBounds_toArray, List.set_cons_zero, List.set_cons_succ]
        refine rg_done (by kernel_rfl) ?_
        --TAIL
        go_wp2_with fail
        go_meet
        exact ⟨by rw [HB.out]; first | rfl | (simp; done) | (simp; omega), r0⟩
      · refine rg_take (v := .agg (cfC c (.slice A n k) (.slice A2 n2 k2))) 15 rfl (by kernel_rfl) (by kernel_rfl) (by kernel_rfl) (fun _ _ _ h => h) (by rfl) ?_ ?_
        · (intro x hx; apply run_load_big; (case ho => exact rfl); (case hv => exact rfl); (case hg => exact CC x hx); (case hu => exact Tryz.underlying40); (case hd => rfl); (case hi => kernel_rfl))
        try simp only [Act.put, List.setIfInBounds_toArray, List.set_cons_zero, List.set_cons_succ]
        refine rg_take (v := ?_) 16 rfl (by kernel_rfl) (by kernel_rfl) (by kernel_rfl) (fun _ _ _ h => h) (by rfl) ?_ ?_; rotate_left
        · (intro x hx; go_simp; first | done | with_reducible rfl | (rw [if_pos (by omega)]; try with_reducible rfl) | (rw [if_neg (by omega)]; try with_reducible rfl))
        try simp only [Act.put, List.setIfInBounds_toArray, List.set_cons_zero, List.set_cons_succ]
        refine rg_take (v := ?_) 17 rfl (by kernel_rfl) (by kernel_rfl) (by kernel_rfl) (fun _ _ _ h => h) (by rfl) ?_ ?_; rotate_left
        · (intro x hx; go_simp; first | done | with_reducible rfl | (rw [if_pos (by omega)]; try with_reducible rfl) | (rw [if_neg (by omega)]; try with_reducible rfl))
        try simp only [Act.put, List.setIfInBounds_toArray, List.set_cons_zero, List.set_cons_succ]
        refine rg_step 18 rfl (by kernel_rfl) (by rfl) (fun K hK => ?_)
        go_simp
        refine (rinner_any _ c _ _ c.own).mono ?_
        rw [E3.out]
        rintro e u1 ⟨rfl, p1⟩
        replace r0 := r0.trans (p1.mono r0.size)
        have f0 := Ext.cells (w := u1) (M := fun _ => False) (below_at r0 P0 (heap_lt P0)) (fun h => h)
        refine hK.out _ _ (Ext.below_all _ p1) ?_
        clear hK K; try simp only [Act.put, List.setIfInBounds_toArray, List.set_cons_zero, List.set_cons_succ]
        refine rg_take (v := ?_) 19 rfl (by kernel_rfl) (by kernel_rfl) (by kernel_rfl) (fun _ _ _ h => h) (by rfl) ?_ ?_; rotate_left
        · (intro x hx; go_simp; first | done | with_reducible rfl | (rw [if_pos (by omega)]; try with_reducible rfl) | (rw [if_neg (by omega)]; try with_reducible rfl))
        try simp only [Act.put, List.setIfInBounds_toArray, List.set_cons_zero, List.set_cons_succ]
        refine rg_take (v := ?_) 20 rfl (by kernel_rfl) (by kernel_rfl) (by kernel_rfl) (fun _ _ _ h => h) (by rfl) ?_ ?_; rotate_left
        · (intro x hx; go_simp; first | done | with_reducible rfl | (rw [if_pos (by omega)]; try with_reducible rfl) | (rw [if_neg (by omega)]; try with_reducible rfl))
        try simp only [Act.put, List.setIfInBounds_toArray, List.set_cons_zero, List.set_cons_succ]
        refine rg_take (v := ?_) 21 rfl (by kernel_rfl) (by kernel_rfl) (by kernel_rfl) (fun _ _ _ h => h) (by rfl) ?_ ?_; rotate_left
        · (intro x hx; go_simp; first | done | with_reducible rfl | (rw [if_pos (by omega)]; try with_reducible rfl) | (rw [if_neg (by omega)]; try with_reducible rfl))
        try simp only [Act.put, List.setIfInBounds_toArray, List.set_cons_zero, List.set_cons_succ]
        rcases t3 with _ | _
        · refine rg_skip 22 rfl (by kernel_rfl) (by kernel_rfl) (by kernel_rfl) (fun _ _ _ h => h) (by rfl) ?_; simp only [Act.put, List.setIfInBounds_toArray, List.set_cons_zero, List.set_cons_succ]
          refine rg_skip 23 rfl (by kernel_rfl) (by kernel_rfl) (by kernel_rfl) (fun _ _ _ h => h) (by rfl) ?_; simp only [Act.put, List.setIfInBounds_toArray, List.set_cons_zero, List.set_cons_succ]
          refine rg_skip 24 rfl (by kernel_rfl) (by kernel_rfl) (by kernel_rfl) (fun _ _ _ h => h) (by rfl) ?_; simp only [Act.put, List.setIfInBounds_toArray, List.set_cons_zero, List.set_cons_succ]
          refine rg_take (v := ?_) 25 rfl (by kernel_rfl) (by kernel_rfl) (by kernel_rfl) (fun _ _ _ h => h) (by rfl) ?_ ?_; rotate_left
          · (intro x hx; go_simp; first | done | with_reducible rfl | (rw [if_pos (by omega)]; try with_reducible rfl) | (rw [if_neg (by omega)]; try with_reducible rfl))
          try simp only [Act.put, List.setIfInBounds_toArray, List.set_cons_zero, List.set_cons_succ]
          refine rg_take (v := ?_) 26 rfl (by kernel_rfl) (by kernel_rfl) (by kernel_rfl) (fun _ _ _ h => h) (by rfl) ?_ ?_; rotate_left
          · (intro x hx; go_simp; first | done | with_reducible rfl | (rw [if_pos (by omega)]; try with_reducible rfl) | (rw [if_neg (by omega)]; try with_reducible rfl))
          try simp only [Act.put, List.setIfInBounds_toArray, List.set_cons_zero, List.set_cons_succ]
          refine rg_skip 27 rfl (by kernel_rfl) (by kernel_rfl) (by kernel_rfl) (fun _ _ _ h => h) (by rfl) ?_; simp only [Act.put, List.setIfInBounds_toArray, List.set_cons_zero, List.set_cons_succ]
          refine rg_skip 28 rfl (by kernel_rfl) (by kernel_rfl) (by kernel_rfl) (fun _ _ _ h => h) (by rfl) ?_; simp only [Act.put, List.setIfInBounds_toArray, List.set_cons_zero, List.set_cons_succ]
          refine rg_skip 29 rfl (by kernel_rfl) (by kernel_rfl) (by kernel_rfl) (fun _ _ _ h => h) (by rfl) ?_; simp only [Act.put, List.setIfInBounds_toArray, List.set_cons_zero, List.set_cons_succ]
          refine rg_take (v := ?_) 30 rfl (by kernel_rfl) (by kernel_rfl) (by kernel_rfl) (fun _ _ _ h => h) (by rfl) ?_ ?_; rotate_left
          · (intro x hx; go_simp; first | done | with_reducible rfl | (rw [if_pos (by omega)]; try with_reducible rfl) | (rw [if_neg (by omega)]; try with_reducible rfl))
          try simp only [Act.put, List.setIfInBounds_toArray, List.set_cons_zero, List.set_cons_succ]
          refine rg_done (by kernel_rfl) ?_
          --TAIL
          go_wp2_with fail
          go_meet
          exact ⟨by rw [HB.out]; first | rfl | (simp; done) | (simp; omega), r0⟩
        · refine rg_take (v := ?_) 22 rfl (by kernel_rfl) (by kernel_rfl) (by kernel_rfl) (fun _ _ _ h => h) (by rfl) ?_ ?_; rotate_left
          · (intro x hx; go_simp; first | done | with_reducible rfl | (rw [if_pos (by omega)]; try with_reducible rfl) | (rw [if_neg (by omega)]; try with_reducible rfl))
          try simp only [Act.put, List.setIfInBounds_toArray, List.set_cons_zero, List.set_cons_succ]
          refine rg_take (v := ?_) 23 rfl (by kernel_rfl) (by kernel_rfl) (by kernel_rfl) (fun _ _ _ h => h) (by rfl) ?_ ?_; rotate_left
          · (intro x hx; go_simp; first | done | with_reducible rfl | (rw [if_pos (by omega)]; try with_reducible rfl) | (rw [if_neg (by omega)]; try with_reducible rfl))
          try simp only [Act.put, List.setIfInBounds_toArray, List.set_cons_zero, List.set_cons_succ]
          refine rg_step 24 rfl (by kernel_rfl) (by rfl) (fun K hK => ?_)
          go_simp
          refine (rgroup_any _ c.lm).mono ?_
          rw [E4.out]
          rintro e u1 ⟨rfl, p1⟩
          replace r0 := r0.trans (p1.mono r0.size)
          have f0 := Ext.cells (w := u1) (M := fun _ => False) (below_at r0 P0 (heap_lt P0)) (fun h => h)
          refine hK.out _ _ (Ext.below_all _ p1) ?_
          clear hK K; try simp only [Act.put, List.setIfInBounds_toArray, List.set_cons_zero, List.set_cons_succ]
          refine rg_take (v := ?_) 25 rfl (by kernel_rfl) (by kernel_rfl) (by kernel_rfl) (fun _ _ _ h => h) (by rfl) ?_ ?_; rotate_left
          · (intro x hx; go_simp; first | done | with_reducible rfl | (rw [if_pos (by omega)]; try with_reducible rfl) | (rw [if_neg (by omega)]; try with_reducible rfl))
          try simp only [Act.put, List.setIfInBounds_toArray, List.set_cons_zero, List.set_cons_succ]
          refine rg_take (v := ?_) 26 rfl (by kernel_rfl) (by kernel_rfl) (by kernel_rfl) (fun _ _ _ h => h) (by rfl) ?_ ?_; rotate_left
          · (intro x hx; go_simp; first | done | with_reducible rfl | (rw [if_pos (by omega)]; try with_reducible rfl) | (rw [if_neg (by omega)]; try with_reducible rfl))
          try simp only [Act.put, List.setIfInBounds_toArray, List.set_cons_zero, List.set_cons_succ]
          rcases t4 with _ | _
          · refine rg_take (v := ?_) 27 rfl (by kernel_rfl) (by kernel_rfl) (by kernel_rfl) (fun _ _ _ h => h) (by rfl) ?_ ?_; rotate_left
            · (intro x hx; go_simp; first | done | with_reducible rfl | (rw [if_pos (by omega)]; try with_reducible rfl) | (rw [if_neg (by omega)]; try with_reducible rfl))
            try simp only [Act.put, List.setIfInBounds_toArray, List.set_cons_zero, List.set_cons_succ]
            refine rg_take (v := ?_) 28 rfl (by kernel_rfl) (by kernel_rfl) (by kernel_rfl) (fun _ _ _ h => h) (by rfl) ?_ ?_; rotate_left
            · (intro x hx; go_simp; first | done | with_reducible rfl | (rw [if_pos (by omega)]; try with_reducible rfl) | (rw [if_neg (by omega)]; try with_reducible rfl))
            try simp only [Act.put, List.setIfInBounds_toArray, List.set_cons_zero, List.set_cons_succ]
            refine rg_step 29 rfl (by kernel_rfl) (by rfl) (fun K hK => ?_)
            go_simp
            refine (rgroup_any _ c.wm).mono ?_
            rw [E5.out]
            rintro e u1 ⟨rfl, p1⟩
            replace r0 := r0.trans (p1.mono r0.size)
            refine hK.out _ _ (Ext.below_all _ p1) ?_
            clear hK K; try simp only [Act.put, List.setIfInBounds_toArray, List.set_cons_zero, List.set_cons_succ]
            refine rg_take (v := ?_) 30 rfl (by kernel_rfl) (by kernel_rfl) (by kernel_rfl) (fun _ _ _ h => h) (by rfl) ?_ ?_; rotate_left
            · (intro x hx; go_simp; first | done | with_reducible rfl | (rw [if_pos (by omega)]; try with_reducible rfl) | (rw [if_neg (by omega)]; try with_reducible rfl))
            try simp only [Act.put, List.setIfInBounds_toArray, List.set_cons_zero, List.set_cons_succ]
            refine rg_done (by kernel_rfl) ?_
            --TAIL
            go_wp2_with fail
            go_meet
            exact ⟨by rw [HB.out]; first | rfl | (simp; done) | (simp; omega), r0⟩
          · refine rg_skip 27 rfl (by kernel_rfl) (by kernel_rfl) (by kernel_rfl) (fun _ _ _ h => h) (by rfl) ?_; simp only [Act.put, List.setIfInBounds_toArray, List.set_cons_zero, List.set_cons_succ]
            refine rg_skip 28 rfl (by kernel_rfl) (by kernel_rfl) (by kernel_rfl) (fun _ _ _ h => h) (by rfl) ?_; simp only [Act.put, List.setIfInBounds_toArray, List.set_cons_zero, List.set_cons_succ]
            refine rg_skip 29 rfl (by kernel_rfl) (by kernel_rfl) (by kernel_rfl) (fun _ _ _ h => h) (by rfl) ?_; simp only [Act.put, List.setIfInBounds_toArray, List.set_cons_zero, List.set_cons_succ]
            refine rg_take (v := ?_) 30 rfl (by kernel_rfl) (by kernel_rfl) (by kernel_rfl) (fun _ _ _ h => h) (by rfl) ?_ ?_; rotate_left
            · (intro x hx; go_simp; first | done | with_reducible rfl | (rw [if_pos (by omega)]; try with_reducible rfl) | (rw [if_neg (by omega)]; try with_reducible rfl))
            try simp only [Act.put, List.setIfInBounds_toArray, List.set_cons_zero, List.set_cons_succ]
            refine rg_done (by kernel_rfl) ?_
            --TAIL
            go_wp2_with fail
            go_meet
            exact ⟨by rw [HB.out]; first | rfl | (simp; done) | (simp; omega), r0⟩
  case rest =>
    obtain ⟨rfl, q⟩ := hcut
    have I : CkI w g (cfC c (.slice A n k) (.slice A2 n2 k2)) wc := ⟨below_at q P0 (heap_lt P0), HB0.out.trans (q.mono HB0.out.size)⟩
    clear P0 HB0 q
    by_cases hnet : rnetB c = true
    case neg =>
      rw [Bool.not_eq_true] at hnet
      have HV := Lib.hid (ck_no1 (lf := lf) (lo := lo) hnet)
      have b1 := I.b
      rw [hnet]
      clear hnet I
      go_wp2_with fail
      go_ret
      exact ⟨by rw [HV.out]; rfl, b1⟩
    have HNET := Lib.hid hnet
    rw [hnet]
    clear hnet
    obtain ⟨nf, hnf⟩ : ∃ n, numA c.fst = n := ⟨_, rfl⟩
    obtain ⟨nl, hnl⟩ : ∃ n, numA c.lst = n := ⟨_, rfl⟩
    obtain ⟨no, hno⟩ : ∃ n, numA c.own = n := ⟨_, rfl⟩
    have NF := Lib.hid hnf
    have NL := Lib.hid hnl
    have NO := Lib.hid hno
    have hfm := numA_lt c.fst
    have hlm := numA_lt c.lst
    rw [hnf] at hfm
    rw [hnl] at hlm
    clear hnf hnl hno
    have PI := I.P
    go_upto_region 3 with fail
    have r0 : Below wc.heap.size wc wc.drew := (Below.refl _ _).drew
    have f0 := Ext.cells (w := wc.drew) (M := fun _ => False) PI (fun h => h)
    refine rg_begin (fun _ => False) (by kernel_rfl) ?_
    refine rg_take (v := ?_) 0 rfl (by kernel_rfl) (by kernel_rfl) (by kernel_rfl) (fun _ _ _ h => h) (by rfl) ?_ ?_; rotate_left
    · (intro x hx; go_simp; first | done | with_reducible rfl | (rw [if_pos (by omega)]; try with_reducible rfl) | (rw [if_neg (by omega)]; try with_reducible rfl))
    try simp only [Act.put, List.setIfInBounds_toArray, List.set_cons_zero, List.set_cons_succ]
    refine rg_take (v := ?_) 1 rfl (by kernel_rfl) (by kernel_rfl) (by kernel_rfl) (fun _ _ _ h => h) (by rfl) ?_ ?_; rotate_left
    · (intro x hx; go_simp; first | done | with_reducible rfl | (rw [if_pos (by omega)]; try with_reducible rfl) | (rw [if_neg (by omega)]; try with_reducible rfl))
    try simp only [Act.put, List.setIfInBounds_toArray, List.set_cons_zero, List.set_cons_succ]
    refine rg_take (v := ?_) 3 rfl (by kernel_rfl) (by kernel_rfl) (by kernel_rfl) (fun _ _ _ h => h) (by rfl) ?_ ?_; rotate_left
    · (intro x hx; go_simp; first | done | with_reducible rfl | (rw [if_pos (by omega)]; try with_reducible rfl) | (rw [if_neg (by omega)]; try with_reducible rfl))
    try simp only [Act.put, List.setIfInBounds_toArray, List.set_cons_zero, List.set_cons_succ]
    refine rg_take (v := ?_) 4 rfl (by kernel_rfl) (by kernel_rfl) (by kernel_rfl) (fun _ _ _ h => h) (by rfl) ?_ ?_; rotate_left
    · (intro x hx; go_simp; first | done | with_reducible rfl | (rw [if_pos (by omega)]; try with_reducible rfl) | (rw [if_neg (by omega)]; try with_reducible rfl))
    try simp only [Act.put, List.setIfInBounds_toArray, List.set_cons_zero, List.set_cons_succ]
    refine rg_take (v := ?_) 6 rfl (by kernel_rfl) (by kernel_rfl) (by kernel_rfl) (fun _ _ _ h => h) (by rfl) ?_ ?_; rotate_left
    · (intro x hx; go_simp; first | done | with_reducible rfl | (rw [if_pos (by omega)]; try with_reducible rfl) | (rw [if_neg (by omega)]; try with_reducible rfl))
    try simp only [Act.put, List.setIfInBounds_toArray, List.set_cons_zero, List.set_cons_succ]
    refine rg_take (v := ?_) 7 rfl (by kernel_rfl) (by kernel_rfl) (by kernel_rfl) (fun _ _ _ h => h) (by rfl) ?_ ?_; rotate_left
    · (intro x hx; go_simp; first | done | with_reducible rfl | (rw [if_pos (by omega)]; try with_reducible rfl) | (rw [if_neg (by omega)]; try with_reducible rfl))
    try simp only [Act.put, List.setIfInBounds_toArray, List.set_cons_zero, List.set_cons_succ]
    refine rg_step 2 rfl (by kernel_rfl) (by rfl) (fun K hK => ?_)
    go_simp
    refine (rnum_any _ c.fst).mono ?_
    rw [NF.out]
    rintro e u1 ⟨rfl, p1⟩
    replace r0 := r0.trans (p1.mono r0.size)
    refine hK.out _ _ (Ext.below_all _ p1) ?_
    clear hK K; try simp only [Act.put, List.setIfInBounds_toArray, List.set_cons_zero, List.set_cons_succ]
    refine rg_step 5 rfl (by kernel_rfl) (by rfl) (fun K hK => ?_)
    go_simp
    refine (rnum_any _ c.lst).mono ?_
    rw [NL.out]
    rintro e u2 ⟨rfl, p1⟩
    replace r0 := r0.trans (p1.mono r0.size)
    refine hK.out _ _ (Ext.below_all _ p1) ?_
    clear hK K; try simp only [Act.put, List.setIfInBounds_toArray, List.set_cons_zero, List.set_cons_succ]
    refine rg_step 8 rfl (by kernel_rfl) (by rfl) (fun K hK => ?_)
    go_simp
    refine (rnum_any _ c.own).mono ?_
    rw [NO.out]
    rintro e u3 ⟨rfl, p1⟩
    replace r0 := r0.trans (p1.mono r0.size)
    refine hK.out _ _ (Ext.below_all _ p1) ?_
    clear hK K; try simp only [Act.put, List.setIfInBounds_toArray, List.set_cons_zero, List.set_cons_succ]
    refine rg_take (v := ?_) 9 rfl (by kernel_rfl) (by kernel_rfl) (by kernel_rfl) (fun _ _ _ h => h) (by rfl) ?_ ?_; rotate_left
    · (intro x hx; go_simp; first | done | with_reducible rfl | (rw [if_pos (by omega)]; try with_reducible rfl) | (rw [if_neg (by omega)]; try with_reducible rfl))
    try simp only [Act.put, List.setIfInBounds_toArray, List.set_cons_zero, List.set_cons_succ]
    refine rg_take (v := ?_) 10 rfl (by kernel_rfl) (by kernel_rfl) (by kernel_rfl) (fun _ _ _ h => h) (by rfl) ?_ ?_; rotate_left
    · (intro x hx; go_simp; first | done | with_reducible rfl | (rw [if_pos (by omega)]; try with_reducible rfl) | (rw [if_neg (by omega)]; try with_reducible rfl))
    try simp only [Act.put, List.setIfInBounds_toArray, List.set_cons_zero, List.set_cons_succ]
    refine rg_take (v := ?_) 11 rfl (by kernel_rfl) (by kernel_rfl) (by kernel_rfl) (fun _ _ _ h => h) (by rfl) ?_ ?_; rotate_left
    · (intro x hx; go_simp; first | done | with_reducible rfl | (rw [if_pos (by omega)]; try with_reducible rfl) | (rw [if_neg (by omega)]; try with_reducible rfl))
    try simp only [Act.put, List.setIfInBounds_toArray, List.set_cons_zero, List.set_cons_succ]
    refine rg_done (by kernel_rfl) ?_
    have I3 := I.next r0
    clear I PI r0 f0
    go_upto_region 4 with fail
    go_cut [84] (fun v wx => v = .bool (!poolB c) ∧ Below u3.heap.size u3 wx)
    case first =>
     as_aux_lemma =>
      have hB : poolB c = (inB c c.fst && inB c c.lst && decide (nf ≤ nl) && decide (nl < nf + 64) && (decide (no < nf) || decide (nl < no))) := by rw [poolB, NF.out, NL.out, NO.out]
      obtain ⟨t1, h1⟩ : ∃ b, inB c c.fst = b := ⟨_, rfl⟩
      obtain ⟨t2, h2⟩ : ∃ b, inB c c.lst = b := ⟨_, rfl⟩
      rw [h1, h2] at hB
      have E1 := Lib.hid h1
      have E2 := Lib.hid h2
      have HB := Lib.hid hB
      clear h1 h2 hB
      have P3 := I3.P
      have f3 := (cells_of P3).1
      clear I3
      go_wp2_with (first | ((with_reducible apply at_load_row 40); (case hx => exact rfl); (case hg => exact P3); (case hu => exact Tryz.underlying40); (case hd => rfl); (case hi => kernel_rfl)) | ((with_reducible apply at_load_guard 40); (case hx => exact rfl); (case hg => exact P3); (case hw => first | rfl | kernel_rfl); (case hu => exact Tryz.underlying40); (case hd => rfl); (case hi => kernel_rfl)))
      refine (rinner_any u3 c _ _ c.fst).mono ?_
      rw [E1.out]
      rintro e u4 ⟨rfl, q4⟩
      have P4 := below_at q4 P3 (heap_lt P3)
      clear P3 f3
      rcases t1 with _ | _
      · go_wp2_with fail
        go_meet
        exact ⟨by rw [HB.out]; first | rfl | (simp; done) | (simp; omega), q4⟩
      have f4 := (cells_of P4).1
      go_wp2_with (first | ((with_reducible apply at_load_row 40); (case hx => exact rfl); (case hg => exact P4); (case hu => exact Tryz.underlying40); (case hd => rfl); (case hi => kernel_rfl)) | ((with_reducible apply at_load_guard 40); (case hx => exact rfl); (case hg => exact P4); (case hw => first | rfl | kernel_rfl); (case hu => exact Tryz.underlying40); (case hd => rfl); (case hi => kernel_rfl)))
      refine (rinner_any u4 c _ _ c.lst).mono ?_
      rw [E2.out]
      rintro e u5 ⟨rfl, q5⟩
      have b5 := q4.trans (q5.mono q4.size)
      clear P4 q4 q5 f4
      rcases t2 with _ | _
      · go_wp2_with fail
        go_meet
        exact ⟨by rw [HB.out]; first | rfl | (simp; done) | (simp; omega), b5⟩
      rcases Nat.lt_or_ge nl nf with h3 | h3
      · have d1 : decide (nl < nf) = true := decide_eq_true h3
        have HV := Lib.hid (show poolB c = false by rw [HB.out, decide_eq_false (show ¬ nf ≤ nl by omega)]; rfl)
        clear h3
        go_wp2_with fail
        go_meet
        exact ⟨by rw [HV.out]; first | rfl | (simp; done) | (simp; omega), b5⟩
      have d1 : decide (nl < nf) = false := decide_eq_false (by omega)
      have d1i : ¬ ((nl : Int) < (nf : Int)) := by omega
      have hw : IntKind.u32.wrap ((nl : Int) - (nf : Int)) = (nl : Int) - (nf : Int) := by rw [show IntKind.u32.wrap ((nl : Int) - (nf : Int)) = ((nl : Int) - (nf : Int)) % 4294967296 by simp [IntKind.wrap, IntKind.bits, IntKind.signed]]; omega
      rcases Nat.lt_or_ge nl (nf + 64) with h4 | h4
      case inr =>
        have d3 : decide (64 ≤ (nl : Int) - (nf : Int)) = true := decide_eq_true (by omega)
        have HV := Lib.hid (show poolB c = false by rw [HB.out, decide_eq_false (show ¬ nl < nf + 64 by omega)]; simp)
        clear h3 h4
        go_wp2_with fail
        go_meet
        exact ⟨by rw [HV.out]; first | rfl | (simp; done) | (simp; omega), b5⟩
      have d3 : decide (64 ≤ (nl : Int) - (nf : Int)) = false := decide_eq_false (by omega)
      rcases Nat.lt_or_ge no nf with h5 | h5
      · have d5 : decide (nf ≤ no) = false := decide_eq_false (by omega)
        have HV := Lib.hid (show poolB c = true by rw [HB.out, decide_eq_true h3, decide_eq_true h4, decide_eq_true h5]; rfl)
        clear h3 h4 h5
        go_wp2_with fail
        go_meet
        exact ⟨by rw [HV.out]; first | rfl | (simp; done) | (simp; omega), b5⟩
      have d5 : decide (nf ≤ no) = true := decide_eq_true h5
      rcases Nat.lt_or_ge nl no with h6 | h6
      · have d7 : decide (no ≤ nl) = false := decide_eq_false (by omega)
        have HV := Lib.hid (show poolB c = true by rw [HB.out, decide_eq_true h3, decide_eq_true h4, decide_eq_true h6]; simp)
        clear h3 h4 h5 h6
        go_wp2_with fail
        go_meet
        exact ⟨by rw [HV.out]; first | rfl | (simp; done) | (simp; omega), b5⟩
      · have d7 : decide (no ≤ nl) = true := decide_eq_true h6
        have HV := Lib.hid (show poolB c = false by rw [HB.out, decide_eq_false (show ¬ no < nf by omega), decide_eq_false (show ¬ nl < no by omega)]; simp)
        clear h3 h4 h5 h6
        go_wp2_with fail
        go_meet
        exact ⟨by rw [HV.out]; first | rfl | (simp; done) | (simp; omega), b5⟩
    case rest =>
      obtain ⟨rfl, q⟩ := hcut
      have I4 := I3.next q
      clear I3 q
      by_cases hpo : poolB c = true
      case neg =>
        rw [Bool.not_eq_true] at hpo
        have HV := Lib.hid (ck_no2 (lf := lf) (lo := lo) hpo)
        have b1 := I4.b
        rw [hpo]
        clear hpo I4
        go_wp2_with fail
        go_ret
        exact ⟨by rw [HV.out]; rfl, b1⟩
      have HPO := Lib.hid hpo
      rw [hpo]
      clear hpo hfm hlm
      go_upto_region 6 with fail
      go_cut [132] (fun v wx => v = .bool (!(timesB c && decide (lf.length ≤ 32) && decide (lo.length ≤ 32))) ∧ wx = wc)
      case first =>
       as_aux_lemma =>
        have hB : (timesB c && decide (lf.length ≤ 32) && decide (lo.length ≤ 32)) = (inR c.time 60 86400 && inR (c.dns.a.toNat : Int) 1 223 && inR c.udp 10 86400 && inR c.tcp 10 86400 && inR c.icmp 10 86400 && inR c.low 1024 60000 && decide (n ≤ 32) && decide (n2 ≤ 32)) := by
          rw [← HN.out.1, ← HN.out.2, timesB]
          have h1 : inR (c.dns.a.toNat : Int) 1 223 = (decide (1 ≤ c.dns.a.toNat) && decide (c.dns.a.toNat ≤ 223)) := by
            rw [inR, Bool.eq_iff_iff]
            simp only [Bool.and_eq_true, decide_eq_true_eq]
            omega
          rw [h1]
          simp only [Bool.and_assoc]
        obtain ⟨t1, h1⟩ : ∃ b, inR c.time 60 86400 = b := ⟨_, rfl⟩
        obtain ⟨t2, h2⟩ : ∃ b, inR (c.dns.a.toNat : Int) 1 223 = b := ⟨_, rfl⟩
        obtain ⟨t3, h3⟩ : ∃ b, inR c.udp 10 86400 = b := ⟨_, rfl⟩
        obtain ⟨t4, h4⟩ : ∃ b, inR c.tcp 10 86400 = b := ⟨_, rfl⟩
        obtain ⟨t5, h5⟩ : ∃ b, inR c.icmp 10 86400 = b := ⟨_, rfl⟩
        obtain ⟨t6, h6⟩ : ∃ b, inR c.low 1024 60000 = b := ⟨_, rfl⟩
        rw [h1, h2, h3, h4, h5, h6] at hB
        have E1 := Lib.hid h1
        have E2 := Lib.hid h2
        have E3 := Lib.hid h3
        have E4 := Lib.hid h4
        have E5 := Lib.hid h5
        have E6 := Lib.hid h6
        have HB := Lib.hid hB
        have f0 := (cells_of I4.P).1
        have wd : IntKind.i64.wrap (c.dns.a.toNat : Int) = (c.dns.a.toNat : Int) := IntWalk.i64_in _ (by have := c.dns.a.toNat_lt; omega)
        clear h1 h2 h3 h4 h5 h6 hB I4
        go_wp2_with fail
        refine (rin_any wc c.time 60 86400).mono ?_
        rw [E1.out]
        rintro e v1 ⟨rfl, rfl⟩
        rcases t1 with _ | _
        · go_wp2_with fail
          go_meet
          exact ⟨by rw [HB.out]; first | rfl | (simp; done) | (simp; omega), rfl⟩
        go_wp2_with fail
        refine (rin_any _ (c.dns.a.toNat : Int) 1 223).mono ?_
        rw [E2.out]
        rintro e v2 ⟨rfl, rfl⟩
        rcases t2 with _ | _
        · go_wp2_with fail
          go_meet
          exact ⟨by rw [HB.out]; first | rfl | (simp; done) | (simp; omega), rfl⟩
        go_wp2_with fail
        refine (rin_any _ c.udp 10 86400).mono ?_
        rw [E3.out]
        rintro e v3 ⟨rfl, rfl⟩
        rcases t3 with _ | _
        · go_wp2_with fail
          go_meet
          exact ⟨by rw [HB.out]; first | rfl | (simp; done) | (simp; omega), rfl⟩
        go_wp2_with fail
        refine (rin_any _ c.tcp 10 86400).mono ?_
        rw [E4.out]
        rintro e v4 ⟨rfl, rfl⟩
        rcases t4 with _ | _
        · go_wp2_with fail
          go_meet
          exact ⟨by rw [HB.out]; first | rfl | (simp; done) | (simp; omega), rfl⟩
        go_wp2_with fail
        refine (rin_any _ c.icmp 10 86400).mono ?_
        rw [E5.out]
        rintro e v5 ⟨rfl, rfl⟩
        rcases t5 with _ | _
        · go_wp2_with fail
          go_meet
          exact ⟨by rw [HB.out]; first | rfl | (simp; done) | (simp; omega), rfl⟩
        go_wp2_with fail
        refine (rin_any _ c.low 1024 60000).mono ?_
        rw [E6.out]
        rintro e v6 ⟨rfl, rfl⟩
        rcases t6 with _ | _
        · go_wp2_with fail
          go_meet
          exact ⟨by rw [HB.out]; first | rfl | (simp; done) | (simp; omega), rfl⟩
        rcases Nat.lt_or_ge 32 n with k1 | k1
        · have d1 : decide (32 < n) = true := decide_eq_true k1
          have d2 := Lib.hid (show decide (n ≤ 32) = false from decide_eq_false (by omega))
          go_wp2_with fail
          go_meet
          exact ⟨by rw [HB.out, d2.out]; first | rfl | (simp; done) | (simp; omega), rfl⟩
        rcases Nat.lt_or_ge 32 n2 with k2 | k2
        · have d1 : decide (32 < n) = false := decide_eq_false (by omega)
          have d3 : decide (32 < n2) = true := decide_eq_true k2
          have d2 := Lib.hid (show decide (n2 ≤ 32) = false from decide_eq_false (by omega))
          have k1i : (n : Int) ≤ 32 := by omega
          go_wp2_with fail
          go_meet
          exact ⟨by rw [HB.out, d2.out]; first | rfl | (simp; done) | (simp; omega), rfl⟩
        · have d1 : decide (32 < n) = false := decide_eq_false (by omega)
          have d3 : decide (32 < n2) = false := decide_eq_false (by omega)
          have d2 := Lib.hid (show decide (n ≤ 32) = true from decide_eq_true k1)
          have d4 := Lib.hid (show decide (n2 ≤ 32) = true from decide_eq_true k2)
          have k1i : (n : Int) ≤ 32 := by omega
          have k2i : (n2 : Int) ≤ 32 := by omega
          go_wp2_with fail
          go_meet
          exact ⟨by rw [HB.out, d2.out, d4.out]; first | rfl | (simp; done) | (simp; omega), rfl⟩
      case rest =>
        obtain ⟨rfl, rfl⟩ := hcut
        by_cases hti : (timesB c && decide (lf.length ≤ 32) && decide (lo.length ≤ 32)) = true
        case neg =>
          rw [Bool.not_eq_true] at hti
          have HV := Lib.hid (ck_no3 (lf := lf) (lo := lo) hti)
          have b1 := I4.b
          rw [hti]
          clear hti I4
          go_wp2_with fail
          go_ret
          exact ⟨by rw [HV.out]; rfl, b1⟩
        have HTI := Lib.hid hti
        rw [hti]
        have hl32 : lf.length ≤ 32 ∧ lo.length ≤ 32 := by
          simp only [Bool.and_eq_true, decide_eq_true_eq] at hti
          exact ⟨hti.1.2, hti.2⟩
        have HL := Lib.hid hl32
        have hn32 : n ≤ 32 ∧ n2 ≤ 32 := by have := HN.out; omega
        have HN32 := Lib.hid hn32
        clear hti hl32 hn32
        have CSd : cfC c (.slice A n k) (.slice A2 n2 k2) = cfC c (.slice A n k) (.slice A2 n2 k2) := rfl
        clear CSd
        have HW := Lib.hid (show ∀ f ∈ lo, wfOp f from HR.out.wf)
        have hz0 := (cells_of I4.P).1
        go_wp2_with fail
        clear hz0
        go_loopw [6] (fun v wr => ∃ i : Nat, v = .int .i64 i ∧ i ≤ n ∧ (∀ j, j < i → goodF c lf j) ∧ CkI w g (cfC c (.slice A n k) (.slice A2 n2 k2)) wr) (fun v _ => n - (intOf v).toNat)
        case atStart => exact ⟨0, rfl, Nat.zero_le _, fun j hj => by omega, I4⟩
        case round =>
          clear I4
          obtain ⟨i, rfl, hi, hgd, I6⟩ := hrel
          have HGD := Lib.hid hgd
          clear hgd
          rcases Nat.lt_or_ge i n with hlt | hge
          · obtain ⟨f, hf⟩ : ∃ f, lf[i]? = some f := ⟨lf[i]'(by have := HN.out.1; omega), List.getElem?_eq_getElem _⟩
            obtain ⟨b, o, rfl, hbk⟩ := fx_some HR.out.rf hf
            have HF := Lib.hid hf
            have hra := fx_range (HR.out.rf.below I6.b) hf
            have hlti : decide ((i : Int) < (n : Int)) = true := decide_eq_true (by omega)
            have hnn : (0 : Int) ≤ (i : Int) ∧ (i : Int) < (n : Int) := by omega
            have w64 : IntKind.i64.wrap ((i : Int) + 1) = (i : Int) + 1 := IntWalk.i64_in _ (by have := HN32.out.1; omega)
            have HLT := Lib.hid hlt
            have P6 := I6.P
            have f6 := (cells_of P6).1
            clear hf hlt hi
            go_upto_region 12 with (first | ((with_reducible apply at_load_mid 71); (case hx => exact rfl); (case hc => exact hra); (case hu => exact Tryz.underlying71); (case hd => rfl); (case hi => kernel_rfl)) | ((with_reducible apply at_store_new 71); (case hx => exact rfl); (case hy => exact rfl); (case hg => first | rfl | simp); (case hi => kernel_rfl); (case hold => rfl); (case h1 => kernel_rfl)))
            have F7 := heap_alloc_new wr (.cells (fxC f) 71)
            have I7 := I6.next ((Below.refl wr.heap.size wr).alloc (Nat.le_refl _) (.cells (fxC f) 71))
            obtain ⟨gf, hgf⟩ : ∃ gf, wr.heap.size = gf := ⟨_, rfl⟩
            rw [hgf] at F7 ⊢
            generalize wr.alloc (.cells (fxC f) 71) = w7 at F7 I7 ⊢
            clear f6 P6 I6 hgf hra
            obtain ⟨t1, h1⟩ : ∃ b, inB c f.a = b := ⟨_, rfl⟩
            obtain ⟨t2, h2⟩ : ∃ b, adeq f.a c.own = b := ⟨_, rfl⟩
            have em := fun w => run_eql_ad w f.a c.own
            simp only [h2] at em
            have HDV := Lib.hid (show devB c f.a = (t1 && !t2) by rw [devB, h1, h2])
            have E1 := Lib.hid h1
            have P7 := I7.P
            have f7 := (cells_of F7).1
            clear h1 h2
            go_wp2_with (first | ((with_reducible apply at_load_row 40); (case hx => exact rfl); (case hg => exact P7); (case hu => exact Tryz.underlying40); (case hd => rfl); (case hi => kernel_rfl)))
            refine (rinner_any w7 c _ _ f.a).mono ?_
            rw [E1.out]
            rintro e w8 ⟨rfl, q8⟩
            have F8 := below_at q8 F7 (heap_lt F7)
            have I8 := I7.next q8
            clear F7 I7 P7 f7 q8 E1
            rcases t1 with _ | _
            · have HV := Lib.hid (ck_no4 (c := c) (lo := lo) HL.out.1 (i := i) (fun h => by have := (h f HF.out).1; rw [HDV.out] at this; cases this))
              have b8 := I8.b
              clear I8 F8
              go_wp2_with fail
              go_ret
              exact ⟨by rw [HV.out]; rfl, b8⟩
            have P8 := I8.P
            have f8 := (cells_of F8).1
            have g8 := (cells_of P8).1
            rcases t2 with _ | _
            case true =>
              have HV := Lib.hid (ck_no4 (c := c) (lo := lo) HL.out.1 (i := i) (fun h => by have := (h f HF.out).1; rw [HDV.out] at this; cases this))
              have b8 := I8.b
              clear I8 F8 P8
              go_wp2_with fail
              go_ret
              exact ⟨by rw [HV.out]; rfl, b8⟩
            go_wp2_with fail
            clear f8 g8 em
            go_loopw [8] (fun v wr => ∃ m : Nat, v = .int .i64 m ∧ m ≤ i ∧ (∀ k, k < m → ∀ g', lf[k]? = some g' → g'.m ≠ f.m ∧ g'.a ≠ f.a) ∧ CkI w g (cfC c (.slice (some ⟨b, o, none⟩) n k) (.slice A2 n2 k2)) wr ∧ wr.heap[gf]? = some (.cells (fxC f) 71 (0, 0))) (fun v _ => i - (intOf v).toNat)
            case atStart => exact ⟨0, rfl, Nat.zero_le _, fun j hj => by omega, I8, F8⟩
            case round =>
              clear I8 F8 P8
              rename_i wq _
              obtain ⟨m, rfl, hmi, hno, I9, F9⟩ := hrel
              have HNO := Lib.hid hno
              clear hno
              rcases Nat.lt_or_ge m i with hlt | hge
              · obtain ⟨fm, hfm⟩ : ∃ f, lf[m]? = some f := ⟨lf[m]'(by have := HN.out.1; have := HLT.out; omega), List.getElem?_eq_getElem _⟩
                have hrm := fx_range (HR.out.rf.below I9.b) hfm
                have HFM := Lib.hid hfm
                have hlti : decide ((m : Int) < (i : Int)) = true := decide_eq_true (by omega)
                have hnn : (0 : Int) ≤ (m : Int) ∧ (m : Int) < (n : Int) := by have := HLT.out; omega
                have w64m : IntKind.i64.wrap ((m : Int) + 1) = (m : Int) + 1 := IntWalk.i64_in _ (by have := HN32.out.1; have := HLT.out; omega)
                have HML := Lib.hid hlt
                have P9 := I9.P
                obtain ⟨tm, htm⟩ : ∃ b, meq fm.m f.m = b := ⟨_, rfl⟩
                obtain ⟨ta, hta⟩ : ∃ b, adeq fm.a f.a = b := ⟨_, rfl⟩
                have em := fun w => run_eql_mac w fm.m f.m
                have ea := fun w => run_eql_ad w fm.a f.a
                simp only [htm] at em
                simp only [hta] at ea
                have HTM := Lib.hid htm
                have HTA := Lib.hid hta
                clear hfm hlt hmi htm hta
                go_upto_region 17 with fail
                go_cut [181] (fun v wx => v = .bool (tm || ta) ∧ Below wr.heap.size wr wx)
                case first =>
                 as_aux_lemma =>
                  have kc : ∀ j v, (fxC fm).toList[j]? = some v → ∀ x, Ext (fun _ => False) wr.drew x → x.cell? ⟨b, o + m * 10 + j, none⟩ = some v := fun j v hj => Ext.cell (w := wr.drew) (hrm j v hj) (fun h => h)
                  have yy0 := kc 0 _ rfl
                  have yy1 := kc 1 _ rfl
                  have yy2 := kc 2 _ rfl
                  have yy3 := kc 3 _ rfl
                  have yy4 := kc 4 _ rfl
                  have yy5 := kc 5 _ rfl
                  have yy6 := kc 6 _ rfl
                  have yy7 := kc 7 _ rfl
                  have yy8 := kc 8 _ rfl
                  have yy9 := kc 9 _ rfl
                  rw [Nat.add_zero] at yy0
                  have kP := Ext.cell (w := wr.drew) (M := fun _ => False) ((cells_of P9).1 38) (fun h => h)
                  have kF := Ext.cells (w := wr.drew) (M := fun _ => False) F9 (fun h => h)
                  have r0 : Below wr.heap.size wr wr.drew := (Below.refl _ _).drew
                  clear kc hrm P9 I9 F9
                  refine rg_begin (fun _ => False) (by kernel_rfl) ?_
                  refine rg_take (v := ?_) 0 rfl (by kernel_rfl) (by kernel_rfl) (by kernel_rfl) (fun _ _ _ h => h) (by rfl) ?_ ?_; rotate_left
                  · (intro x hx; go_simp; first | done | with_reducible rfl | (rw [if_pos (by omega)]; try with_reducible rfl) | (rw [if_neg (by omega)]; try with_reducible rfl))
                  try simp only [Act.put, List.setIfInBounds_toArray, List.set_cons_zero, List.set_cons_succ]
                  refine rg_take (v := ?_) 1 rfl (by kernel_rfl) (by kernel_rfl) (by kernel_rfl) (fun _ _ _ h => h) (by rfl) ?_ ?_; rotate_left
                  · (intro x hx; go_simp; first | done | with_reducible rfl | (rw [if_pos (by omega)]; try with_reducible rfl) | (rw [if_neg (by omega)]; try with_reducible rfl))
                  try simp only [Act.put, List.setIfInBounds_toArray, List.set_cons_zero, List.set_cons_succ]
                  refine rg_take (v := ?_) 2 rfl (by kernel_rfl) (by kernel_rfl) (by kernel_rfl) (fun _ _ _ h => h) (by rfl) ?_ ?_; rotate_left
                  · (intro x hx; go_simp; first | done | with_reducible rfl | (rw [if_pos (by omega)]; try with_reducible rfl) | (rw [if_neg (by omega)]; try with_reducible rfl))
                  try simp only [Act.put, List.setIfInBounds_toArray, List.set_cons_zero, List.set_cons_succ]
                  refine rg_take (v := ?_) 3 rfl (by kernel_rfl) (by kernel_rfl) (by kernel_rfl) (fun _ _ _ h => h) (by rfl) ?_ ?_; rotate_left
                  · (intro x hx; go_simp; first | done | with_reducible rfl | (rw [if_pos (by omega)]; try with_reducible rfl) | (rw [if_neg (by omega)]; try with_reducible rfl))
                  try simp only [Act.put, List.setIfInBounds_toArray, List.set_cons_zero, List.set_cons_succ]
                  refine rg_take (v := ?_) 4 rfl (by kernel_rfl) (by kernel_rfl) (by kernel_rfl) (fun _ _ _ h => h) (by rfl) ?_ ?_; rotate_left
                  · (intro x hx; go_simp; first | done | with_reducible rfl | (rw [if_pos (by omega)]; try with_reducible rfl) | (rw [if_neg (by omega)]; try with_reducible rfl))
                  try simp only [Act.put, List.setIfInBounds_toArray, List.set_cons_zero, List.set_cons_succ]
                  refine rg_take (v := ?_) 5 rfl (by kernel_rfl) (by kernel_rfl) (by kernel_rfl) (fun _ _ _ h => h) (by rfl) ?_ ?_; rotate_left
                  · (intro x hx; go_simp; first | done | with_reducible rfl | (rw [if_pos (by omega)]; try with_reducible rfl) | (rw [if_neg (by omega)]; try with_reducible rfl))
                  try simp only [Act.put, List.setIfInBounds_toArray, List.set_cons_zero, List.set_cons_succ]
                  refine rg_take (v := ?_) 6 rfl (by kernel_rfl) (by kernel_rfl) (by kernel_rfl) (fun _ _ _ h => h) (by rfl) ?_ ?_; rotate_left
                  · (intro x hx; go_simp; first | done | with_reducible rfl | (rw [if_pos (by omega)]; try with_reducible rfl) | (rw [if_neg (by omega)]; try with_reducible rfl))
                  try simp only [Act.put, List.setIfInBounds_toArray, List.set_cons_zero, List.set_cons_succ]
                  refine rg_take (v := ?_) 7 rfl (by kernel_rfl) (by kernel_rfl) (by kernel_rfl) (fun _ _ _ h => h) (by rfl) ?_ ?_; rotate_left
                  · (intro x hx; go_simp; first | done | with_reducible rfl | (rw [if_pos (by omega)]; try with_reducible rfl) | (rw [if_neg (by omega)]; try with_reducible rfl))
                  try simp only [Act.put, List.setIfInBounds_toArray, List.set_cons_zero, List.set_cons_succ]
                  refine rg_take (v := ?_) 8 rfl (by kernel_rfl) (by kernel_rfl) (by kernel_rfl) (fun _ _ _ h => h) (by rfl) ?_ ?_; rotate_left
                  · (intro x hx; go_simp; first | done | with_reducible rfl | (rw [if_pos (by omega)]; try with_reducible rfl) | (rw [if_neg (by omega)]; try with_reducible rfl))
                  try simp only [Act.put, List.setIfInBounds_toArray, List.set_cons_zero, List.set_cons_succ]
                  refine rg_take (v := ?_) 9 rfl (by kernel_rfl) (by kernel_rfl) (by kernel_rfl) (fun _ _ _ h => h) (by rfl) ?_ ?_; rotate_left
                  · (intro x hx; go_simp; first | done | with_reducible rfl | (rw [if_pos (by omega)]; try with_reducible rfl) | (rw [if_neg (by omega)]; try with_reducible rfl))
                  try simp only [Act.put, List.setIfInBounds_toArray, List.set_cons_zero, List.set_cons_succ]
                  rcases tm with _ | _
                  · refine rg_take (v := ?_) 10 rfl (by kernel_rfl) (by kernel_rfl) (by kernel_rfl) (fun _ _ _ h => h) (by rfl) ?_ ?_; rotate_left
                    · (intro x hx; go_simp; first | done | with_reducible rfl | (rw [if_pos (by omega)]; try with_reducible rfl) | (rw [if_neg (by omega)]; try with_reducible rfl))
                    try simp only [Act.put, List.setIfInBounds_toArray, List.set_cons_zero, List.set_cons_succ]
                    refine rg_take (v := ?_) 11 rfl (by kernel_rfl) (by kernel_rfl) (by kernel_rfl) (fun _ _ _ h => h) (by rfl) ?_ ?_; rotate_left
                    · (intro x hx; go_simp; first | done | with_reducible rfl | (rw [if_pos (by omega)]; try with_reducible rfl) | (rw [if_neg (by omega)]; try with_reducible rfl))
                    try simp only [Act.put, List.setIfInBounds_toArray, List.set_cons_zero, List.set_cons_succ]
                    refine rg_take (v := ?_) 12 rfl (by kernel_rfl) (by kernel_rfl) (by kernel_rfl) (fun _ _ _ h => h) (by rfl) ?_ ?_; rotate_left
                    · (intro x hx; go_simp; first | done | with_reducible rfl | (rw [if_pos (by omega)]; try with_reducible rfl) | (rw [if_neg (by omega)]; try with_reducible rfl))
                    try simp only [Act.put, List.setIfInBounds_toArray, List.set_cons_zero, List.set_cons_succ]
                    refine rg_take (v := ?_) 13 rfl (by kernel_rfl) (by kernel_rfl) (by kernel_rfl) (fun _ _ _ h => h) (by rfl) ?_ ?_; rotate_left
                    · (intro x hx; go_simp; first | done | with_reducible rfl | (rw [if_pos (by omega)]; try with_reducible rfl) | (rw [if_neg (by omega)]; try with_reducible rfl))
                    try simp only [Act.put, List.setIfInBounds_toArray, List.set_cons_zero, List.set_cons_succ]
                    refine rg_take (v := ?_) 14 rfl (by kernel_rfl) (by kernel_rfl) (by kernel_rfl) (fun _ _ _ h => h) (by rfl) ?_ ?_; rotate_left
                    · (intro x hx; go_simp; first | done | with_reducible rfl | (rw [if_pos (by omega)]; try with_reducible rfl) | (rw [if_neg (by omega)]; try with_reducible rfl))
                    try simp only [Act.put, List.setIfInBounds_toArray, List.set_cons_zero, List.set_cons_succ]
                    refine rg_take (v := ?_) 15 rfl (by kernel_rfl) (by kernel_rfl) (by kernel_rfl) (fun _ _ _ h => h) (by rfl) ?_ ?_; rotate_left
                    · (intro x hx; go_simp; first | done | with_reducible rfl | (rw [if_pos (by omega)]; try with_reducible rfl) | (rw [if_neg (by omega)]; try with_reducible rfl))
                    try simp only [Act.put, List.setIfInBounds_toArray, List.set_cons_zero, List.set_cons_succ]
                    refine rg_take (v := ?_) 16 rfl (by kernel_rfl) (by kernel_rfl) (by kernel_rfl) (fun _ _ _ h => h) (by rfl) ?_ ?_; rotate_left
                    · (intro x hx; go_simp; first | done | with_reducible rfl | (rw [if_pos (by omega)]; try with_reducible rfl) | (rw [if_neg (by omega)]; try with_reducible rfl))
                    try simp only [Act.put, List.setIfInBounds_toArray, List.set_cons_zero, List.set_cons_succ]
                    refine rg_take (v := ?_) 17 rfl (by kernel_rfl) (by kernel_rfl) (by kernel_rfl) (fun _ _ _ h => h) (by rfl) ?_ ?_; rotate_left
                    · (intro x hx; go_simp; first | done | with_reducible rfl | (rw [if_pos (by omega)]; try with_reducible rfl) | (rw [if_neg (by omega)]; try with_reducible rfl))
                    try simp only [Act.put, List.setIfInBounds_toArray, List.set_cons_zero, List.set_cons_succ]
                    refine rg_take (v := ?_) 18 rfl (by kernel_rfl) (by kernel_rfl) (by kernel_rfl) (fun _ _ _ h => h) (by rfl) ?_ ?_; rotate_left
                    · (intro x hx; go_simp; first | done | with_reducible rfl | (rw [if_pos (by omega)]; try with_reducible rfl) | (rw [if_neg (by omega)]; try with_reducible rfl))
                    try simp only [Act.put, List.setIfInBounds_toArray, List.set_cons_zero, List.set_cons_succ]
                    refine rg_take (v := ?_) 19 rfl (by kernel_rfl) (by kernel_rfl) (by kernel_rfl) (fun _ _ _ h => h) (by rfl) ?_ ?_; rotate_left
                    · (intro x hx; go_simp; first | done | with_reducible rfl | (rw [if_pos (by omega)]; try with_reducible rfl) | (rw [if_neg (by omega)]; try with_reducible rfl))
                    try simp only [Act.put, List.setIfInBounds_toArray, List.set_cons_zero, List.set_cons_succ]
                    refine rg_done (by kernel_rfl) ?_
                    --TAIL
                    go_wp2_with fail
                    go_meet
                    exact ⟨by first | rfl | (simp; done) | (simp; omega), r0⟩
                  · refine rg_skip 10 rfl (by kernel_rfl) (by kernel_rfl) (by kernel_rfl) (fun _ _ _ h => h) (by rfl) ?_; simp only [Act.put, List.setIfInBounds_toArray, List.set_cons_zero, List.set_cons_succ]
                    refine rg_skip 11 rfl (by kernel_rfl) (by kernel_rfl) (by kernel_rfl) (fun _ _ _ h => h) (by rfl) ?_; simp only [Act.put, List.setIfInBounds_toArray, List.set_cons_zero, List.set_cons_succ]
                    refine rg_skip 12 rfl (by kernel_rfl) (by kernel_rfl) (by kernel_rfl) (fun _ _ _ h => h) (by rfl) ?_; simp only [Act.put, List.setIfInBounds_toArray, List.set_cons_zero, List.set_cons_succ]
                    refine rg_skip 13 rfl (by kernel_rfl) (by kernel_rfl) (by kernel_rfl) (fun _ _ _ h => h) (by rfl) ?_; simp only [Act.put, List.setIfInBounds_toArray, List.set_cons_zero, List.set_cons_succ]
                    refine rg_skip 14 rfl (by kernel_rfl) (by kernel_rfl) (by kernel_rfl) (fun _ _ _ h => h) (by rfl) ?_; simp only [Act.put, List.setIfInBounds_toArray, List.set_cons_zero, List.set_cons_succ]
                    refine rg_skip 15 rfl (by kernel_rfl) (by kernel_rfl) (by kernel_rfl) (fun _ _ _ h => h) (by rfl) ?_; simp only [Act.put, List.setIfInBounds_toArray, List.set_cons_zero, List.set_cons_succ]
                    refine rg_skip 16 rfl (by kernel_rfl) (by kernel_rfl) (by kernel_rfl) (fun _ _ _ h => h) (by rfl) ?_; simp only [Act.put, List.setIfInBounds_toArray, List.set_cons_zero, List.set_cons_succ]
                    refine rg_skip 17 rfl (by kernel_rfl) (by kernel_rfl) (by kernel_rfl) (fun _ _ _ h => h) (by rfl) ?_; simp only [Act.put, List.setIfInBounds_toArray, List.set_cons_zero, List.set_cons_succ]
                    refine rg_skip 18 rfl (by kernel_rfl) (by kernel_rfl) (by kernel_rfl) (fun _ _ _ h => h) (by rfl) ?_; simp only [Act.put, List.setIfInBounds_toArray, List.set_cons_zero, List.set_cons_succ]
                    refine rg_take (v := ?_) 19 rfl (by kernel_rfl) (by kernel_rfl) (by kernel_rfl) (fun _ _ _ h => h) (by rfl) ?_ ?_; rotate_left
                    · (intro x hx; go_simp; first | done | with_reducible rfl | (rw [if_pos (by omega)]; try with_reducible rfl) | (rw [if_neg (by omega)]; try with_reducible rfl))
                    try simp only [Act.put, List.setIfInBounds_toArray, List.set_cons_zero, List.set_cons_succ]
                    refine rg_done (by kernel_rfl) ?_
                    --TAIL
                    go_wp2_with fail
                    go_meet
                    exact ⟨by first | rfl | (simp; done) | (simp; omega), r0⟩
                case rest =>
                  obtain ⟨rfl, q⟩ := hcut
                  have I10 := I9.next q
                  have F10 := below_at q F9 (heap_lt F9)
                  clear hrm P9 I9 F9 q em ea
                  by_cases ht : (tm || ta) = true
                  · have HV := Lib.hid (ck_no4 (c := c) (lo := lo) HL.out.1 (i := i) (fun h => by
                      have h2 := (h f HF.out).2 m HML.out fm HFM.out
                      rw [Bool.or_eq_true] at ht
                      rcases ht with ht | ht
                      · exact h2.1 ((meq_iff _ _).1 (by rw [HTM.out]; exact ht))
                      · exact h2.2 ((adeq_iff _ _).1 (by rw [HTA.out]; exact ht))))
                    have b10 := I10.b
                    rw [ht]
                    clear I10 F10 ht
                    go_wp2_with fail
                    go_ret
                    exact ⟨by rw [HV.out]; rfl, b10⟩
                  · rw [Bool.not_eq_true] at ht
                    have HT := Lib.hid ht
                    rw [ht]
                    clear ht
                    go_wp2_with fail
                    go_roundw
                    case rel =>
                      refine ⟨m + 1, by push_cast; rfl, HML.out, fun j hj g' hg' => ?_, I10, F10⟩
                      rcases Nat.lt_or_ge j m with h | h
                      · exact HNO.out j h g' hg'
                      · obtain rfl : j = m := by omega
                        have := HFM.out
                        rw [this] at hg'
                        injection hg' with hg'
                        subst hg'
                        have h3 := HT.out
                        rw [Bool.or_eq_false_iff] at h3
                        refine ⟨fun e => ?_, fun e => ?_⟩
                        · have := (meq_iff _ _).2 e
                          rw [HTM.out, h3.1] at this
                          cases this
                        · have := (adeq_iff _ _).2 e
                          rw [HTA.out, h3.2] at this
                          cases this
                    case measure => have := HML.out; simp [intOf]; omega
              · obtain rfl : m = i := by omega
                have hltm : decide ((m : Int) < (m : Int)) = false := decide_eq_false (by omega)
                have HG2 := Lib.hid (show goodF c lf m from fun f' hf' => by
                  have := HF.out
                  rw [this] at hf'
                  injection hf' with hf'
                  subst hf'
                  exact ⟨by rw [HDV.out]; rfl, fun k hk g' hg' => HNO.out k hk g' hg'⟩)
                clear hmi hge F9
                go_wp2_with fail
                go_roundw
                case rel =>
                  have hgd2 : ∀ j, j < m + 1 → goodF c lf j := fun j hj => by
                    rcases Nat.lt_or_ge j m with h | h
                    · exact HGD.out j h
                    · obtain rfl : j = m := by omega
                      exact HG2.out
                  (repeat apply Exists.intro)
                  exact ⟨⟨m + 1, by push_cast; rfl, HLT.out, hgd2, I9⟩, rfl⟩
                case measure => have := HLT.out; simp [intOf]; omega
          · obtain rfl : i = n := by omega
            have hlti : decide ((i : Int) < (i : Int)) = false := decide_eq_false (by omega)
            have HGF := Lib.hid (show ∀ j, j < lf.length → goodF c lf j from fun j hj => HGD.out j (by have := HN.out.1; omega))
            have P6 := I6.P
            have f6 := (cells_of P6).1
            have hlow : 1024 ≤ c.low ∧ c.low ≤ 60000 := by
              have h := HTI.out
              simp only [Bool.and_eq_true, timesB, inR, decide_eq_true_eq] at h
              omega
            have hwl : IntKind.i64.wrap (c.low - 1) = c.low - 1 := IntWalk.i64_in _ (by omega)
            clear hi hge HGD hlow
            go_wp2_with fail
            clear f6 P6
            go_loopw [9] (fun v wr => ∃ j : Nat, v = .int .i64 j ∧ j ≤ n2 ∧ (∀ k, k < j → goodO c lo k) ∧ CkI w g (cfC c (.slice A i k) (.slice A2 n2 k2)) wr) (fun v _ => n2 - (intOf v).toNat)
            case atStart => exact ⟨0, rfl, Nat.zero_le _, fun j hj => by omega, I6⟩
            case round =>
              clear I6
              rename_i wq _
              obtain ⟨j, rfl, hj, hgd, I6⟩ := hrel
              have HGD := Lib.hid hgd
              clear hgd
              rcases Nat.lt_or_ge j n2 with hlt | hge
              · obtain ⟨f, hf⟩ : ∃ f, lo[j]? = some f := ⟨lo[j]'(by have := HN.out.2; omega), List.getElem?_eq_getElem _⟩
                obtain ⟨b, o, rfl, hbk⟩ := op_some HR.out.ro hf
                have HF := Lib.hid hf
                have hra := op_range (HR.out.ro.below I6.b) hf
                have hltj : decide ((j : Int) < (n2 : Int)) = true := decide_eq_true (by omega)
                have hnn : (0 : Int) ≤ (j : Int) ∧ (j : Int) < (n2 : Int) := by omega
                have w64 : IntKind.i64.wrap ((j : Int) + 1) = (j : Int) + 1 := IntWalk.i64_in _ (by have := HN32.out.2; omega)
                have HLT := Lib.hid hlt
                have P6 := I6.P
                have f6 := (cells_of P6).1
                clear hf hlt hj
                go_upto_region 23 with (first | ((with_reducible apply at_load_mid 72); (case hx => exact rfl); (case hc => exact hra); (case hu => exact Tryz.underlying72); (case hd => rfl); (case hi => kernel_rfl)) | ((with_reducible apply at_store_new 72); (case hx => exact rfl); (case hy => exact rfl); (case hg => first | rfl | simp); (case hi => kernel_rfl); (case hold => rfl); (case h1 => kernel_rfl)))
                have F7 := heap_alloc_new wr (.cells (opC f) 72)
                have I7 := I6.next ((Below.refl wr.heap.size wr).alloc (Nat.le_refl _) (.cells (opC f) 72))
                obtain ⟨gf, hgf⟩ : ∃ gf, wr.heap.size = gf := ⟨_, rfl⟩
                rw [hgf] at F7 ⊢
                generalize wr.alloc (.cells (opC f) 72) = w7 at F7 I7 ⊢
                clear f6 P6 I6 hgf hra
                dsimp only [Act.put]
                go_cut [230] (fun v wx => v = .bool (!(protB f.pr && inR f.po 1 (c.low - 1) && inR f.tp 1 65535 && devB c f.a)) ∧ Below w7.heap.size w7 wx)
                case first =>
                 as_aux_lemma =>
                  obtain ⟨p1, h1⟩ : ∃ b, (f.pr != 17) = b := ⟨_, rfl⟩
                  obtain ⟨p2, h2⟩ : ∃ b, (f.pr != 6) = b := ⟨_, rfl⟩
                  obtain ⟨t2, h3⟩ : ∃ b, inR f.po 1 (c.low - 1) = b := ⟨_, rfl⟩
                  obtain ⟨t3, h4⟩ : ∃ b, inR f.tp 1 65535 = b := ⟨_, rfl⟩
                  obtain ⟨t4, h5⟩ : ∃ b, inB c f.a = b := ⟨_, rfl⟩
                  obtain ⟨t5, h6⟩ : ∃ b, adeq f.a c.own = b := ⟨_, rfl⟩
                  have em := fun w => run_eql_ad w f.a c.own
                  simp only [h6] at em
                  have HB := Lib.hid (show (protB f.pr && inR f.po 1 (c.low - 1) && inR f.tp 1 65535 && devB c f.a) = (!(p1 && p2) && t2 && t3 && (t4 && !t5)) by rw [protB, devB, h1, h2, h3, h4, h5, h6])
                  have E3 := Lib.hid h3
                  have E4 := Lib.hid h4
                  have E5 := Lib.hid h5
                  have P7 := I7.P
                  have f7 := (cells_of F7).1
                  have g7 := (cells_of P7).1
                  clear h3 h4 h5 h6
                  rcases p1 with _ | _
                  case' true =>
                    rcases p2 with _ | _
                  case' true.true =>
                    go_wp2_with fail
                    go_meet
                    exact ⟨by rw [HB.out]; first | rfl | (simp; done) | (simp; omega), Below.refl _ _⟩
                  all_goals
                    go_wp2_with fail
                    refine (rin_any _ f.po 1 (c.low - 1)).mono ?_
                    rw [E3.out]
                    rintro e v1 ⟨rfl, rfl⟩
                    rcases t2 with _ | _
                    · go_wp2_with fail
                      go_meet
                      exact ⟨by rw [HB.out]; first | rfl | (simp; done) | (simp; omega), Below.refl _ _⟩
                    go_wp2_with fail
                    refine (rin_any _ f.tp 1 65535).mono ?_
                    rw [E4.out]
                    rintro e v2 ⟨rfl, rfl⟩
                    rcases t3 with _ | _
                    · go_wp2_with fail
                      go_meet
                      exact ⟨by rw [HB.out]; first | rfl | (simp; done) | (simp; omega), Below.refl _ _⟩
                    go_wp2_with (first | ((with_reducible apply at_load_row 40); (case hx => exact rfl); (case hg => exact P7); (case hu => exact Tryz.underlying40); (case hd => rfl); (case hi => kernel_rfl)) | ((with_reducible apply at_load_guard 40); (case hx => exact rfl); (case hg => exact P7); (case hw => first | rfl | kernel_rfl); (case hu => exact Tryz.underlying40); (case hd => rfl); (case hi => kernel_rfl)))
                    refine (rinner_any _ c _ _ f.a).mono ?_
                    rw [E5.out]
                    rintro e v3 ⟨rfl, q3⟩
                    rcases t4 with _ | _
                    · clear f7 g7
                      go_wp2_with fail
                      go_meet
                      exact ⟨by rw [HB.out]; first | rfl | (simp; done) | (simp; omega), q3⟩
                    have f8 := (cells_of (below_at q3 F7 (heap_lt F7))).1
                    have g8 := (cells_of (below_at q3 P7 (heap_lt P7))).1
                    clear f7 g7 F7 P7 I7
                    rcases t5 with _ | _
                    all_goals
                      go_wp2_with fail
                      go_meet
                      exact ⟨by rw [HB.out]; first | rfl | (simp; done) | (simp; omega), q3⟩
                case rest =>
                  obtain ⟨rfl, q⟩ := hcut
                  have I8 := I7.next q
                  have F8 := below_at q F7 (heap_lt F7)
                  clear I7 F7 q
                  by_cases ht : (protB f.pr && inR f.po 1 (c.low - 1) && inR f.tp 1 65535 && devB c f.a) = true
                  case neg =>
                    have HV := Lib.hid (ck_no5 (c := c) (lf := lf) HL.out.2 HW.out (i := j) (fun h => by
                      obtain ⟨k1, k2, k3, k4⟩ := (h f HF.out).1
                      exact ht (by rw [k1, k2, k3, k4]; rfl)))
                    rw [Bool.not_eq_true] at ht
                    have b8 := I8.b
                    rw [ht]
                    clear I8 F8 ht
                    go_wp2_with fail
                    go_ret
                    exact ⟨by rw [HV.out]; rfl, b8⟩
                  have HT := Lib.hid ht
                  rw [ht]
                  clear ht
                  go_wp2_with fail
                  go_loopw [11] (fun v wr => ∃ m : Nat, v = .int .i64 m ∧ m ≤ j ∧ (∀ k, k < m → ∀ g', lo[k]? = some g' → ¬ (g'.pr = f.pr ∧ g'.po = f.po)) ∧ CkI w g (cfC c (.slice A i k) (.slice (some ⟨b, o, none⟩) n2 k2)) wr ∧ wr.heap[gf]? = some (.cells (opC f) 72 (0, 0))) (fun v _ => j - (intOf v).toNat)
                  case atStart => exact ⟨0, rfl, Nat.zero_le _, fun j hj => by omega, I8, F8⟩
                  case round =>
                    clear I8 F8
                    rename_i wq2 _
                    obtain ⟨m, rfl, hmi, hno, I9, F9⟩ := hrel
                    have HNO := Lib.hid hno
                    clear hno
                    rcases Nat.lt_or_ge m j with hlt | hge
                    · obtain ⟨fm, hfm⟩ : ∃ f, lo[m]? = some f := ⟨lo[m]'(by have := HN.out.2; have := HLT.out; omega), List.getElem?_eq_getElem _⟩
                      have hrm := op_range (HR.out.ro.below I9.b) hfm
                      have HFM := Lib.hid hfm
                      have hlti : decide ((m : Int) < (j : Int)) = true := decide_eq_true (by omega)
                      have hnn : (0 : Int) ≤ (m : Int) ∧ (m : Int) < (n2 : Int) := by have := HLT.out; omega
                      have w64m : IntKind.i64.wrap ((m : Int) + 1) = (m : Int) + 1 := IntWalk.i64_in _ (by have := HN32.out.2; have := HLT.out; omega)
                      have HML := Lib.hid hlt
                      have P9 := I9.P
                      obtain ⟨tm, htm⟩ : ∃ b, (fm.pr == f.pr) = b := ⟨_, rfl⟩
                      obtain ⟨ta, hta⟩ : ∃ b, (fm.po == f.po) = b := ⟨_, rfl⟩
                      have HTM := Lib.hid htm
                      have HTA := Lib.hid hta
                      clear hfm hlt hmi
                      go_upto_region 28 with fail
                      go_cut [255] (fun v wx => v = .bool (tm && ta) ∧ Below wr.heap.size wr wx)
                      case first =>
                       as_aux_lemma =>
                        have kc : ∀ j v, (opC fm).toList[j]? = some v → ∀ x, Ext (fun _ => False) wr.drew x → x.cell? ⟨b, o + m * 7 + j, none⟩ = some v := fun j v hj => Ext.cell (w := wr.drew) (hrm j v hj) (fun h => h)
                        have yy0 := kc 0 _ rfl
                        have yy1 := kc 1 _ rfl
                        rw [Nat.add_zero] at yy0
                        have kP := Ext.cell (w := wr.drew) (M := fun _ => False) ((cells_of P9).1 39) (fun h => h)
                        have kF := Ext.cells (w := wr.drew) (M := fun _ => False) F9 (fun h => h)
                        have r0 : Below wr.heap.size wr wr.drew := (Below.refl _ _).drew
                        clear kc hrm P9 I9 F9
                        refine rg_begin (fun _ => False) (by kernel_rfl) ?_
                        refine rg_take (v := ?_) 0 rfl (by kernel_rfl) (by kernel_rfl) (by kernel_rfl) (fun _ _ _ h => h) (by rfl) ?_ ?_; rotate_left
                        · (intro x hx; go_simp; first | done | with_reducible rfl | (rw [if_pos (by omega)]; try with_reducible rfl) | (rw [if_neg (by omega)]; try with_reducible rfl))
                        try simp only [Act.put, List.setIfInBounds_toArray, List.set_cons_zero, List.set_cons_succ]
                        refine rg_take (v := ?_) 1 rfl (by kernel_rfl) (by kernel_rfl) (by kernel_rfl) (fun _ _ _ h => h) (by rfl) ?_ ?_; rotate_left
                        · (intro x hx; go_simp; first | done | with_reducible rfl | (rw [if_pos (by omega)]; try with_reducible rfl) | (rw [if_neg (by omega)]; try with_reducible rfl))
                        try simp only [Act.put, List.setIfInBounds_toArray, List.set_cons_zero, List.set_cons_succ]
                        refine rg_take (v := ?_) 2 rfl (by kernel_rfl) (by kernel_rfl) (by kernel_rfl) (fun _ _ _ h => h) (by rfl) ?_ ?_; rotate_left
                        · (intro x hx; go_simp; first | done | with_reducible rfl | (rw [if_pos (by omega)]; try with_reducible rfl) | (rw [if_neg (by omega)]; try with_reducible rfl))
                        try simp only [Act.put, List.setIfInBounds_toArray, List.set_cons_zero, List.set_cons_succ]
                        refine rg_take (v := ?_) 3 rfl (by kernel_rfl) (by kernel_rfl) (by kernel_rfl) (fun _ _ _ h => h) (by rfl) ?_ ?_; rotate_left
                        · (intro x hx; go_simp; first | done | with_reducible rfl | (rw [if_pos (by omega)]; try with_reducible rfl) | (rw [if_neg (by omega)]; try with_reducible rfl))
                        try simp only [Act.put, List.setIfInBounds_toArray, List.set_cons_zero, List.set_cons_succ]
                        refine rg_take (v := ?_) 4 rfl (by kernel_rfl) (by kernel_rfl) (by kernel_rfl) (fun _ _ _ h => h) (by rfl) ?_ ?_; rotate_left
                        · (intro x hx; go_simp; first | done | with_reducible rfl | (rw [if_pos (by omega)]; try with_reducible rfl) | (rw [if_neg (by omega)]; try with_reducible rfl))
                        try simp only [Act.put, List.setIfInBounds_toArray, List.set_cons_zero, List.set_cons_succ]
                        refine rg_take (v := ?_) 5 rfl (by kernel_rfl) (by kernel_rfl) (by kernel_rfl) (fun _ _ _ h => h) (by rfl) ?_ ?_; rotate_left
                        · (intro x hx; go_simp; first | done | with_reducible rfl | (rw [if_pos (by omega)]; try with_reducible rfl) | (rw [if_neg (by omega)]; try with_reducible rfl))
                        try simp only [Act.put, List.setIfInBounds_toArray, List.set_cons_zero, List.set_cons_succ]
                        refine rg_take (v := ?_) 6 rfl (by kernel_rfl) (by kernel_rfl) (by kernel_rfl) (fun _ _ _ h => h) (by rfl) ?_ ?_; rotate_left
                        · (intro x hx; go_simp; first | done | with_reducible rfl | (rw [if_pos (by omega)]; try with_reducible rfl) | (rw [if_neg (by omega)]; try with_reducible rfl))
                        try simp only [Act.put, List.setIfInBounds_toArray, List.set_cons_zero, List.set_cons_succ]
                        refine rg_take (v := ?_) 7 rfl (by kernel_rfl) (by kernel_rfl) (by kernel_rfl) (fun _ _ _ h => h) (by rfl) ?_ ?_; rotate_left
                        · (intro x hx; go_simp; first | done | with_reducible rfl | (rw [if_pos (by omega)]; try with_reducible rfl) | (rw [if_neg (by omega)]; try with_reducible rfl))
                        try simp only [Act.put, List.setIfInBounds_toArray, List.set_cons_zero, List.set_cons_succ]
                        refine rg_take (v := ?_) 8 rfl (by kernel_rfl) (by kernel_rfl) (by kernel_rfl) (fun _ _ _ h => h) (by rfl) ?_ ?_; rotate_left
                        · (intro x hx; go_simp; first | done | with_reducible rfl | (rw [if_pos (by omega)]; try with_reducible rfl) | (rw [if_neg (by omega)]; try with_reducible rfl))
                        try simp only [Act.put, List.setIfInBounds_toArray, List.set_cons_zero, List.set_cons_succ]
                        refine rg_take (v := ?_) 9 rfl (by kernel_rfl) (by kernel_rfl) (by kernel_rfl) (fun _ _ _ h => h) (by rfl) ?_ ?_; rotate_left
                        · (intro x hx; go_simp; first | done | with_reducible rfl | (rw [if_pos (by omega)]; try with_reducible rfl) | (rw [if_neg (by omega)]; try with_reducible rfl))
                        try simp only [Act.put, List.setIfInBounds_toArray, List.set_cons_zero, List.set_cons_succ]
                        rcases tm with _ | _
                        · refine rg_skip 10 rfl (by kernel_rfl) (by kernel_rfl) (by kernel_rfl) (fun _ _ _ h => h) (by rfl) ?_; simp only [Act.put, List.setIfInBounds_toArray, List.set_cons_zero, List.set_cons_succ]
                          refine rg_skip 11 rfl (by kernel_rfl) (by kernel_rfl) (by kernel_rfl) (fun _ _ _ h => h) (by rfl) ?_; simp only [Act.put, List.setIfInBounds_toArray, List.set_cons_zero, List.set_cons_succ]
                          refine rg_skip 12 rfl (by kernel_rfl) (by kernel_rfl) (by kernel_rfl) (fun _ _ _ h => h) (by rfl) ?_; simp only [Act.put, List.setIfInBounds_toArray, List.set_cons_zero, List.set_cons_succ]
                          refine rg_skip 13 rfl (by kernel_rfl) (by kernel_rfl) (by kernel_rfl) (fun _ _ _ h => h) (by rfl) ?_; simp only [Act.put, List.setIfInBounds_toArray, List.set_cons_zero, List.set_cons_succ]
                          refine rg_skip 14 rfl (by kernel_rfl) (by kernel_rfl) (by kernel_rfl) (fun _ _ _ h => h) (by rfl) ?_; simp only [Act.put, List.setIfInBounds_toArray, List.set_cons_zero, List.set_cons_succ]
                          refine rg_skip 15 rfl (by kernel_rfl) (by kernel_rfl) (by kernel_rfl) (fun _ _ _ h => h) (by rfl) ?_; simp only [Act.put, List.setIfInBounds_toArray, List.set_cons_zero, List.set_cons_succ]
                          refine rg_skip 16 rfl (by kernel_rfl) (by kernel_rfl) (by kernel_rfl) (fun _ _ _ h => h) (by rfl) ?_; simp only [Act.put, List.setIfInBounds_toArray, List.set_cons_zero, List.set_cons_succ]
                          refine rg_skip 17 rfl (by kernel_rfl) (by kernel_rfl) (by kernel_rfl) (fun _ _ _ h => h) (by rfl) ?_; simp only [Act.put, List.setIfInBounds_toArray, List.set_cons_zero, List.set_cons_succ]
                          refine rg_skip 18 rfl (by kernel_rfl) (by kernel_rfl) (by kernel_rfl) (fun _ _ _ h => h) (by rfl) ?_; simp only [Act.put, List.setIfInBounds_toArray, List.set_cons_zero, List.set_cons_succ]
                          refine rg_take (v := ?_) 19 rfl (by kernel_rfl) (by kernel_rfl) (by kernel_rfl) (fun _ _ _ h => h) (by rfl) ?_ ?_; rotate_left
                          · (intro x hx; go_simp; first | done | with_reducible rfl | (rw [if_pos (by omega)]; try with_reducible rfl) | (rw [if_neg (by omega)]; try with_reducible rfl))
                          try simp only [Act.put, List.setIfInBounds_toArray, List.set_cons_zero, List.set_cons_succ]
                          refine rg_done (by kernel_rfl) ?_
                          --TAIL
                          go_wp2_with fail
                          go_meet
                          exact ⟨by first | rfl | (simp; done) | (simp; omega), r0⟩
                        · refine rg_take (v := ?_) 10 rfl (by kernel_rfl) (by kernel_rfl) (by kernel_rfl) (fun _ _ _ h => h) (by rfl) ?_ ?_; rotate_left
                          · (intro x hx; go_simp; first | done | with_reducible rfl | (rw [if_pos (by omega)]; try with_reducible rfl) | (rw [if_neg (by omega)]; try with_reducible rfl))
                          try simp only [Act.put, List.setIfInBounds_toArray, List.set_cons_zero, List.set_cons_succ]
                          refine rg_take (v := ?_) 11 rfl (by kernel_rfl) (by kernel_rfl) (by kernel_rfl) (fun _ _ _ h => h) (by rfl) ?_ ?_; rotate_left
                          · (intro x hx; go_simp; first | done | with_reducible rfl | (rw [if_pos (by omega)]; try with_reducible rfl) | (rw [if_neg (by omega)]; try with_reducible rfl))
                          try simp only [Act.put, List.setIfInBounds_toArray, List.set_cons_zero, List.set_cons_succ]
                          refine rg_take (v := ?_) 12 rfl (by kernel_rfl) (by kernel_rfl) (by kernel_rfl) (fun _ _ _ h => h) (by rfl) ?_ ?_; rotate_left
                          · (intro x hx; go_simp; first | done | with_reducible rfl | (rw [if_pos (by omega)]; try with_reducible rfl) | (rw [if_neg (by omega)]; try with_reducible rfl))
                          try simp only [Act.put, List.setIfInBounds_toArray, List.set_cons_zero, List.set_cons_succ]
                          refine rg_take (v := ?_) 13 rfl (by kernel_rfl) (by kernel_rfl) (by kernel_rfl) (fun _ _ _ h => h) (by rfl) ?_ ?_; rotate_left
                          · (intro x hx; go_simp; first | done | with_reducible rfl | (rw [if_pos (by omega)]; try with_reducible rfl) | (rw [if_neg (by omega)]; try with_reducible rfl))
                          try simp only [Act.put, List.setIfInBounds_toArray, List.set_cons_zero, List.set_cons_succ]
                          refine rg_take (v := ?_) 14 rfl (by kernel_rfl) (by kernel_rfl) (by kernel_rfl) (fun _ _ _ h => h) (by rfl) ?_ ?_; rotate_left
                          · (intro x hx; go_simp; first | done | with_reducible rfl | (rw [if_pos (by omega)]; try with_reducible rfl) | (rw [if_neg (by omega)]; try with_reducible rfl))
                          try simp only [Act.put, List.setIfInBounds_toArray, List.set_cons_zero, List.set_cons_succ]
                          refine rg_take (v := ?_) 15 rfl (by kernel_rfl) (by kernel_rfl) (by kernel_rfl) (fun _ _ _ h => h) (by rfl) ?_ ?_; rotate_left
                          · (intro x hx; go_simp; first | done | with_reducible rfl | (rw [if_pos (by omega)]; try with_reducible rfl) | (rw [if_neg (by omega)]; try with_reducible rfl))
                          try simp only [Act.put, List.setIfInBounds_toArray, List.set_cons_zero, List.set_cons_succ]
                          refine rg_take (v := ?_) 16 rfl (by kernel_rfl) (by kernel_rfl) (by kernel_rfl) (fun _ _ _ h => h) (by rfl) ?_ ?_; rotate_left
                          · (intro x hx; go_simp; first | done | with_reducible rfl | (rw [if_pos (by omega)]; try with_reducible rfl) | (rw [if_neg (by omega)]; try with_reducible rfl))
                          try simp only [Act.put, List.setIfInBounds_toArray, List.set_cons_zero, List.set_cons_succ]
                          refine rg_take (v := ?_) 17 rfl (by kernel_rfl) (by kernel_rfl) (by kernel_rfl) (fun _ _ _ h => h) (by rfl) ?_ ?_; rotate_left
                          · (intro x hx; go_simp; first | done | with_reducible rfl | (rw [if_pos (by omega)]; try with_reducible rfl) | (rw [if_neg (by omega)]; try with_reducible rfl))
                          try simp only [Act.put, List.setIfInBounds_toArray, List.set_cons_zero, List.set_cons_succ]
                          refine rg_take (v := ?_) 18 rfl (by kernel_rfl) (by kernel_rfl) (by kernel_rfl) (fun _ _ _ h => h) (by rfl) ?_ ?_; rotate_left
                          · (intro x hx; go_simp; first | done | with_reducible rfl | (rw [if_pos (by omega)]; try with_reducible rfl) | (rw [if_neg (by omega)]; try with_reducible rfl))
                          try simp only [Act.put, List.setIfInBounds_toArray, List.set_cons_zero, List.set_cons_succ]
                          refine rg_take (v := ?_) 19 rfl (by kernel_rfl) (by kernel_rfl) (by kernel_rfl) (fun _ _ _ h => h) (by rfl) ?_ ?_; rotate_left
                          · (intro x hx; go_simp; first | done | with_reducible rfl | (rw [if_pos (by omega)]; try with_reducible rfl) | (rw [if_neg (by omega)]; try with_reducible rfl))
                          try simp only [Act.put, List.setIfInBounds_toArray, List.set_cons_zero, List.set_cons_succ]
                          refine rg_done (by kernel_rfl) ?_
                          --TAIL
                          go_wp2_with fail
                          go_meet
                          exact ⟨by first | rfl | (simp; done) | (simp; omega), r0⟩
                      case rest =>
                        obtain ⟨rfl, q⟩ := hcut
                        have I10 := I9.next q
                        have F10 := below_at q F9 (heap_lt F9)
                        clear hrm P9 I9 F9 q htm hta
                        by_cases ht : (tm && ta) = true
                        · have HV := Lib.hid (ck_no5 (c := c) (lf := lf) HL.out.2 HW.out (i := j) (fun h => by
                            have h2 := (h f HF.out).2 m HML.out fm HFM.out
                            rw [Bool.and_eq_true] at ht
                            have e1 := HTM.out
                            have e2 := HTA.out
                            rw [ht.1, beq_iff_eq] at e1
                            rw [ht.2, beq_iff_eq] at e2
                            exact h2 ⟨e1, e2⟩))
                          have b10 := I10.b
                          rw [ht]
                          clear I10 F10 ht
                          go_wp2_with fail
                          go_ret
                          exact ⟨by rw [HV.out]; rfl, b10⟩
                        · rw [Bool.not_eq_true] at ht
                          have HTN := Lib.hid ht
                          rw [ht]
                          clear ht
                          go_wp2_with fail
                          go_roundw
                          case rel =>
                            refine ⟨m + 1, by push_cast; rfl, HML.out, fun j' hj' g' hg' => ?_, I10, F10⟩
                            rcases Nat.lt_or_ge j' m with h | h
                            · exact HNO.out j' h g' hg'
                            · obtain rfl : j' = m := by omega
                              have := HFM.out
                              rw [this] at hg'
                              injection hg' with hg'
                              subst hg'
                              rintro ⟨k1, k2⟩
                              have h3 := HTN.out
                              rw [← HTM.out, ← HTA.out, k1, k2] at h3
                              simp at h3
                          case measure => have := HML.out; simp [intOf]; omega
                    · obtain rfl : m = j := by omega
                      have hltm : decide ((m : Int) < (m : Int)) = false := decide_eq_false (by omega)
                      have HG2 := Lib.hid (show goodO c lo m from fun f' hf' => by
                        have := HF.out
                        rw [this] at hf'
                        injection hf' with hf'
                        subst hf'
                        have h4 := HT.out
                        simp only [Bool.and_eq_true] at h4
                        exact ⟨⟨h4.1.1.1, h4.1.1.2, h4.1.2, h4.2⟩, fun k hk g' hg' => HNO.out k hk g' hg'⟩)
                      clear hmi hge F9
                      go_wp2_with fail
                      go_roundw
                      case rel =>
                        have hgd2 : ∀ j', j' < m + 1 → goodO c lo j' := fun j' hj' => by
                          rcases Nat.lt_or_ge j' m with h | h
                          · exact HGD.out j' h
                          · obtain rfl : j' = m := by omega
                            exact HG2.out
                        (repeat apply Exists.intro)
                        exact ⟨⟨m + 1, by push_cast; rfl, HLT.out, hgd2, I9⟩, rfl⟩
                      case measure => have := HLT.out; simp [intOf]; omega
              · obtain rfl : j = n2 := by omega
                have hltj : decide ((j : Int) < (j : Int)) = false := decide_eq_false (by omega)
                have HV := Lib.hid (ck_yes HNET.out HPO.out HTI.out HW.out HGF.out (fun k hk => HGD.out k (by have := HN.out.2; omega)))
                have P6 := I6.P
                have f6 := (cells_of P6).1
                have b6 := I6.b
                clear hj hge I6 P6
                go_wp2_with fail
                go_ret
                exact ⟨by rw [HV.out]; rfl, b6⟩
end Go.Proofs.YtnmdiageigbphaaGreatDoor
