/-
  The reference's texts of numbers, addresses, devices' addresses.
-/
import Derived.Test.YtabmgggmailomaaDoorAn8
import Derived.Test.YtabmgggmailomaaDoorRegion2
namespace Go.Proofs.YtabmgggmailomaaDoor
open Go.RowKit

theorem dec_steps : ((List.range 256).all fun n => if n < 10 then decB n == [UInt8.ofNat (48 + n)] else decB n == decB (n / 10) ++ [UInt8.ofNat (48 + n % 10)]) = true := by kernel_rfl
theorem dec_small {n : Nat} (h : n < 10) : decB n = [UInt8.ofNat (48 + n)] := by
  have h1 := List.all_eq_true.1 dec_steps n (List.mem_range.2 (by omega))
  rw [if_pos h, beq_iff_eq] at h1
  exact h1
theorem dec_step10 {n : Nat} (h : ¬ n < 10) (h2 : n < 256) : decB n = decB (n / 10) ++ [UInt8.ofNat (48 + n % 10)] := by
  have h1 := List.all_eq_true.1 dec_steps n (List.mem_range.2 h2)
  rw [if_neg h, beq_iff_eq] at h1
  exact h1
theorem ofNat_val {n : Nat} (h : n < 256) : ((UInt8.ofNat n).toNat : Int) = n := by
  rw [UInt8.toNat_ofNat']
  omega
def SPost (w : World) (l : List UInt8) (e : Ending) (w' : World) : Prop := e = .returned (.string (str l)) ∧ Below w.heap.size w w'
theorem cv_one (D : UInt8) (dv : Int) (hv : dv = (D.toNat : Int)) (W : World) : ∀ x, Ext (fun _ => False) (W.alloc (.cells #[.int .u8 dv] 5)) x →
    (convert 71 9 (.slice (some ⟨W.heap.size, 0, none⟩) 1 1)).run Tryd.prog x = .ok (.string (str [D])) x :=
  BS.reads (BS.block [D] (heap_alloc_new W _) (by simp [bv]; exact hv) (by simp [maxLen])) (Nat.le_refl _) (fun _ _ h => h)

set_option maxRecDepth 100000 in
set_option maxHeartbeats 1000000 in
theorem rtext_small (w : World) (n : Nat) (h : n < 10) : Calls Tryd.prog 41 #[.int .i64 n] w (SPost w (decB n)) := by
  have hd0 := dec_small h
  have hd1 := ofNat_val (n := 48 + n) (by omega)
  obtain ⟨D, hD⟩ : ∃ D, UInt8.ofNat (48 + n) = D := ⟨_, rfl⟩
  rw [hD] at hd0 hd1
  have HD := Lib.hid hd0
  have hd2 : 48 + (n : Int) = (D.toNat : Int) := by omega
  have d1 : decide ((n : Int) < 0) = false := decide_eq_false (by omega)
  have d2 : decide ((n : Int) < 10) = true := decide_eq_true (by omega)
  have d3 : decide (n < 10) = true := decide_eq_true h
  have cv := cv_one D (48 + (n : Int)) hd2 w _ (Ext.refl _ _)
  clear hd0 hd1 hd2 hD
  have q1 : Below w.heap.size w (w.alloc (.cells #[.int .u8 (48 + (n : Int))] 5)) := (Below.refl _ w).alloc (Nat.le_refl _) _
  go_enter Tryd.func41, Tryd.ntmps41
  go_wp2_with fail
  go_ret
  exact ⟨by rw [HD.out]; rfl, q1⟩
set_option maxRecDepth 100000 in
set_option maxHeartbeats 1000000 in
theorem rtext_step (n : Nat) (h : ¬ n < 10) (h2 : n < 256) (ih : ∀ w, Calls Tryd.prog 41 #[.int .i64 ((n / 10 : Nat) : Int)] w (SPost w (decB (n / 10)))) (w : World) :
    Calls Tryd.prog 41 #[.int .i64 n] w (SPost w (decB n)) := by
  have hd0 := dec_step10 h h2
  have hd1 := ofNat_val (n := 48 + n % 10) (by omega)
  obtain ⟨D, hD⟩ : ∃ D, UInt8.ofNat (48 + n % 10) = D := ⟨_, rfl⟩
  rw [hD] at hd0 hd1
  have hd2 : 48 + (n : Int) % 10 = (D.toNat : Int) := by omega
  have hl := decB_le (n / 10)
  obtain ⟨A, hA⟩ : ∃ l, decB (n / 10) = l := ⟨_, rfl⟩
  rw [hA] at ih hl hd0
  have HD := Lib.hid hd0
  have d1 : decide ((n : Int) < 0) = false := decide_eq_false (by omega)
  have d2 : decide ((n : Int) < 10) = false := decide_eq_false (by omega)
  have d3 : decide (n < 10) = false := decide_eq_false h
  have CV := Lib.hid (cv_one D (48 + (n : Int) % 10) hd2)
  have s9 : ∀ w, (Op.stringOp .add (str A) (str [D])).run Tryd.prog w = .ok (.string (str (A ++ [D]))) w := fun w => str_add w _ _ (by simp; omega)
  rw [show ((n / 10 : Nat) : Int) = (n : Int) / 10 by omega] at ih
  have HI := Lib.hid ih
  clear hA ih hd0 hd1 hd2 hD
  have ew1 : IntKind.i64.wrap ((n : Int) / 10) = (n : Int) / 10 := IntWalk.i64_in _ (by omega)
  have et : (n : Int).tmod 10 = (n : Int) % 10 := Int.tmod_eq_emod_of_nonneg (by omega)
  have ew2 : IntKind.i64.wrap (48 + (n : Int) % 10) = 48 + (n : Int) % 10 := IntWalk.i64_in _ (by omega)
  have ew3 : IntKind.u8.wrap (48 + (n : Int) % 10) = 48 + (n : Int) % 10 := by
    have : IntKind.u8.wrap (48 + (n : Int) % 10) = (48 + (n : Int) % 10) % 256 := by simp [IntKind.wrap, IntKind.bits, IntKind.signed]
    omega
  go_enter Tryd.func41, Tryd.ntmps41
  go_upto_region 7 with fail
  have rr : Below w.heap.size w w.drew := (Below.refl _ _).drew
  refine rg_begin (fun _ => False) (by kernel_rfl) ?_
  generalize w.drew = wd at rr ⊢
  refine rg_take (v := ?_) 0 rfl (by kernel_rfl) (by kernel_rfl) (by kernel_rfl) (fun _ _ _ h => h) (by rfl) ?_ ?_; rotate_left
  · (intro x hx; go_simp; first | done | with_reducible rfl | (rw [if_pos (by omega)]; try with_reducible rfl) | (rw [if_neg (by omega)]; try with_reducible rfl))
  try simp only [Act.put, List.setIfInBounds_toArray, List.set_cons_zero, List.set_cons_succ]
  refine rg_take (v := ?_) 1 rfl (by kernel_rfl) (by kernel_rfl) (by kernel_rfl) (fun _ _ _ h => h) (by rfl) ?_ ?_; rotate_left
  · (intro x hx; go_simp; first | done | with_reducible rfl | (rw [if_pos (by omega)]; try with_reducible rfl) | (rw [if_neg (by omega)]; try with_reducible rfl))
  try simp only [Act.put, List.setIfInBounds_toArray, List.set_cons_zero, List.set_cons_succ]
  refine rg_take (v := ?_) 3 rfl (by kernel_rfl) (by kernel_rfl) (by kernel_rfl) (fun _ _ _ h => h) (by rfl) ?_ ?_; rotate_left
  · (intro x hx; go_simp; first | done | with_reducible rfl | (rw [if_pos (by omega)]; try with_reducible rfl) | (rw [if_neg (by omega)]; try with_reducible rfl))
  try simp only [Act.put, List.setIfInBounds_toArray, List.set_cons_zero, List.set_cons_succ]
  refine rg_take (v := ?_) 4 rfl (by kernel_rfl) (by kernel_rfl) (by kernel_rfl) (fun _ _ _ h => h) (by rfl) ?_ ?_; rotate_left
  · (intro x hx; go_simp; first | done | with_reducible rfl | (rw [if_pos (by omega)]; try with_reducible rfl) | (rw [if_neg (by omega)]; try with_reducible rfl))
  try simp only [Act.put, List.setIfInBounds_toArray, List.set_cons_zero, List.set_cons_succ]
  refine rg_take (v := ?_) 5 rfl (by kernel_rfl) (by kernel_rfl) (by kernel_rfl) (fun _ _ _ h => h) (by rfl) ?_ ?_; rotate_left
  · (intro x hx; go_simp; first | done | with_reducible rfl | (rw [if_pos (by omega)]; try with_reducible rfl) | (rw [if_neg (by omega)]; try with_reducible rfl))
  try simp only [Act.put, List.setIfInBounds_toArray, List.set_cons_zero, List.set_cons_succ]
  refine rg_take (v := ?_) 6 rfl (by kernel_rfl) (by kernel_rfl) (by kernel_rfl) (fun _ _ _ h => h) (by rfl) ?_ ?_; rotate_left
  · (intro x hx; go_simp; first | done | with_reducible rfl | (rw [if_pos (by omega)]; try with_reducible rfl) | (rw [if_neg (by omega)]; try with_reducible rfl))
  try simp only [Act.put, List.setIfInBounds_toArray, List.set_cons_zero, List.set_cons_succ]
  refine rg_two 2 7 rfl rfl (by kernel_rfl) (by rfl) (by rfl) (fun K hK => ?_) (fun K hK => ?_)
  · go_simp
    refine (HI.out _).mono ?_
    rintro e wn ⟨rfl, qn⟩
    replace rr := rr.trans (qn.mono rr.size)
    refine hK.out _ _ (Ext.below_all _ qn) ?_
    clear hK K; try simp only [Act.put, List.setIfInBounds_toArray, List.set_cons_zero, List.set_cons_succ]
    refine rg_step 7 rfl (by kernel_rfl) (by rfl) (fun K hK => ?_)
    go_simp
    first
      | have cv := CV.out wn
      | have cv := CV.out wd
    replace rr := rr.alloc rr.size (.cells #[.int .u8 (48 + (n : Int) % 10)] 5)
    refine hK.out _ _ (Ext.below_all _ ((Below.refl _ _).alloc (Nat.le_refl _) _)) ?_
    clear hK K; try simp only [Act.put, List.setIfInBounds_toArray, List.set_cons_zero, List.set_cons_succ]
    refine rg_take (v := ?_) 8 rfl (by kernel_rfl) (by kernel_rfl) (by kernel_rfl) (fun _ _ _ h => h) (by rfl) ?_ ?_; rotate_left
    · (intro x hx; go_simp; first | done | with_reducible rfl | (rw [if_pos (by omega)]; try with_reducible rfl) | (rw [if_neg (by omega)]; try with_reducible rfl))
    try simp only [Act.put, List.setIfInBounds_toArray, List.set_cons_zero, List.set_cons_succ]
    refine rg_take (v := ?_) 9 rfl (by kernel_rfl) (by kernel_rfl) (by kernel_rfl) (fun _ _ _ h => h) (by rfl) ?_ ?_; rotate_left
    · (intro x hx; go_simp; first | done | with_reducible rfl | (rw [if_pos (by omega)]; try with_reducible rfl) | (rw [if_neg (by omega)]; try with_reducible rfl))
    try simp only [Act.put, List.setIfInBounds_toArray, List.set_cons_zero, List.set_cons_succ]
    refine rg_take (v := ?_) 10 rfl (by kernel_rfl) (by kernel_rfl) (by kernel_rfl) (fun _ _ _ h => h) (by rfl) ?_ ?_; rotate_left
    · (intro x hx; go_simp; first | done | with_reducible rfl | (rw [if_pos (by omega)]; try with_reducible rfl) | (rw [if_neg (by omega)]; try with_reducible rfl))
    try simp only [Act.put, List.setIfInBounds_toArray, List.set_cons_zero, List.set_cons_succ]
    refine rg_done (by kernel_rfl) ?_
    --TAIL
    go_wp2_with fail
    go_ret
    exact ⟨by rw [HD.out]; rfl, rr⟩
  · go_simp
    first
      | have cv := CV.out wn
      | have cv := CV.out wd
    replace rr := rr.alloc rr.size (.cells #[.int .u8 (48 + (n : Int) % 10)] 5)
    refine hK.out _ _ (Ext.below_all _ ((Below.refl _ _).alloc (Nat.le_refl _) _)) ?_
    clear hK K; try simp only [Act.put, List.setIfInBounds_toArray, List.set_cons_zero, List.set_cons_succ]
    refine rg_take (v := ?_) 8 rfl (by kernel_rfl) (by kernel_rfl) (by kernel_rfl) (fun _ _ _ h => h) (by rfl) ?_ ?_; rotate_left
    · (intro x hx; go_simp; first | done | with_reducible rfl | (rw [if_pos (by omega)]; try with_reducible rfl) | (rw [if_neg (by omega)]; try with_reducible rfl))
    try simp only [Act.put, List.setIfInBounds_toArray, List.set_cons_zero, List.set_cons_succ]
    refine rg_step 2 rfl (by kernel_rfl) (by rfl) (fun K hK => ?_)
    go_simp
    refine (HI.out _).mono ?_
    rintro e wn ⟨rfl, qn⟩
    replace rr := rr.trans (qn.mono rr.size)
    refine hK.out _ _ (Ext.below_all _ qn) ?_
    clear hK K; try simp only [Act.put, List.setIfInBounds_toArray, List.set_cons_zero, List.set_cons_succ]
    refine rg_take (v := ?_) 9 rfl (by kernel_rfl) (by kernel_rfl) (by kernel_rfl) (fun _ _ _ h => h) (by rfl) ?_ ?_; rotate_left
    · (intro x hx; go_simp; first | done | with_reducible rfl | (rw [if_pos (by omega)]; try with_reducible rfl) | (rw [if_neg (by omega)]; try with_reducible rfl))
    try simp only [Act.put, List.setIfInBounds_toArray, List.set_cons_zero, List.set_cons_succ]
    refine rg_take (v := ?_) 10 rfl (by kernel_rfl) (by kernel_rfl) (by kernel_rfl) (fun _ _ _ h => h) (by rfl) ?_ ?_; rotate_left
    · (intro x hx; go_simp; first | done | with_reducible rfl | (rw [if_pos (by omega)]; try with_reducible rfl) | (rw [if_neg (by omega)]; try with_reducible rfl))
    try simp only [Act.put, List.setIfInBounds_toArray, List.set_cons_zero, List.set_cons_succ]
    refine rg_done (by kernel_rfl) ?_
    --TAIL
    go_wp2_with fail
    go_ret
    exact ⟨by rw [HD.out]; rfl, rr⟩
theorem rtext_any (w : World) (n : Nat) (h : n < 256) : Calls Tryd.prog 41 #[.int .i64 n] w (SPost w (decB n)) := by
  by_cases h1 : n < 10
  · exact rtext_small w n h1
  refine rtext_step n h1 h (fun w => ?_) w
  by_cases h2 : n / 10 < 10
  · exact rtext_small w _ h2
  exact rtext_step _ h2 (by omega) (fun w => rtext_small w _ (by omega)) w

set_option maxRecDepth 100000 in
set_option maxHeartbeats 2000000 in
theorem rAddrText_any (w : World) (a : Ad4) : Calls Tryd.prog 27 #[adV a] w (SPost w (textA a)) := by
  have h0 := a.a.toNat_lt; have h1 := a.b.toNat_lt; have h2 := a.c.toNat_lt; have h3 := a.d.toNat_lt
  have l0 := decB_le a.a.toNat; have l1 := decB_le a.b.toNat; have l2 := decB_le a.c.toNat; have l3 := decB_le a.d.toNat
  have HT := Lib.hid (show textA a = decB a.a.toNat ++ 46 :: (decB a.b.toNat ++ 46 :: (decB a.c.toNat ++ 46 :: decB a.d.toNat)) from rfl)
  obtain ⟨A0, a0⟩ : ∃ l, decB a.a.toNat = l := ⟨_, rfl⟩
  obtain ⟨A1, a1⟩ : ∃ l, decB a.b.toNat = l := ⟨_, rfl⟩
  obtain ⟨A2, a2⟩ : ∃ l, decB a.c.toNat = l := ⟨_, rfl⟩
  obtain ⟨A3, a3⟩ : ∃ l, decB a.d.toNat = l := ⟨_, rfl⟩
  rw [a0] at l0; rw [a1] at l1; rw [a2] at l2; rw [a3] at l3
  rw [a0, a1, a2, a3] at HT
  have H0 := Lib.hid a0; have H1 := Lib.hid a1; have H2 := Lib.hid a2; have H3 := Lib.hid a3
  clear a0 a1 a2 a3
  have d0 : ∀ w, (Op.stringOp .add (str A0) ⟨#[46]⟩).run Tryd.prog w = .ok (.string (str (A0 ++ [46]))) w := fun w => str_add w A0 [46] (by simp; omega)
  obtain ⟨B1, b1⟩ : ∃ l, A0 ++ [46] = l := ⟨_, rfl⟩
  have n1 := congrArg List.length b1
  simp at n1
  rw [b1] at d0
  have s1 : ∀ w, (Op.stringOp .add (str B1) (str A1)).run Tryd.prog w = .ok (.string (str (B1 ++ A1))) w := fun w => str_add w B1 A1 (by omega)
  obtain ⟨C1, c1⟩ : ∃ l, B1 ++ A1 = l := ⟨_, rfl⟩
  have m1 := congrArg List.length c1
  simp at m1
  rw [c1] at s1
  have d1 : ∀ w, (Op.stringOp .add (str C1) ⟨#[46]⟩).run Tryd.prog w = .ok (.string (str (C1 ++ [46]))) w := fun w => str_add w C1 [46] (by simp; omega)
  obtain ⟨B2, b2⟩ : ∃ l, C1 ++ [46] = l := ⟨_, rfl⟩
  have n2 := congrArg List.length b2
  simp at n2
  rw [b2] at d1
  have s2 : ∀ w, (Op.stringOp .add (str B2) (str A2)).run Tryd.prog w = .ok (.string (str (B2 ++ A2))) w := fun w => str_add w B2 A2 (by omega)
  obtain ⟨C2, c2⟩ : ∃ l, B2 ++ A2 = l := ⟨_, rfl⟩
  have m2 := congrArg List.length c2
  simp at m2
  rw [c2] at s2
  have d2 : ∀ w, (Op.stringOp .add (str C2) ⟨#[46]⟩).run Tryd.prog w = .ok (.string (str (C2 ++ [46]))) w := fun w => str_add w C2 [46] (by simp; omega)
  obtain ⟨B3, b3⟩ : ∃ l, C2 ++ [46] = l := ⟨_, rfl⟩
  have n3 := congrArg List.length b3
  simp at n3
  rw [b3] at d2
  have s3 : ∀ w, (Op.stringOp .add (str B3) (str A3)).run Tryd.prog w = .ok (.string (str (B3 ++ A3))) w := fun w => str_add w B3 A3 (by omega)
  obtain ⟨C3, c3⟩ : ∃ l, B3 ++ A3 = l := ⟨_, rfl⟩
  rw [c3] at s3
  have HC := Lib.hid (show textA a = C3 by rw [HT.out, ← c3, ← b3, ← c2, ← b2, ← c1, ← b1]; simp)
  have P0 := heap_alloc_new w (.cells (adC a) 24)
  have q1 : Below w.heap.size w (w.alloc (.cells (adC a) 24)) := (Below.refl _ w).alloc (Nat.le_refl _) _
  clear b1 n1 c1 m1 b2 n2 c2 m2 b3 n3 c3 l0 l1 l2 l3 HT
  go_enter Tryd.func27, Tryd.ntmps27
  go_upto_region 1 with fail
  generalize w.alloc (.cells (adC a) 24) = w1 at P0 q1 ⊢
  obtain ⟨g, hg⟩ : ∃ g, w.heap.size = g := ⟨_, rfl⟩
  rw [hg] at P0 ⊢
  have HG := Lib.hid hg
  clear hg
  have r0 : Below w1.heap.size w1 w1.drew := (Below.refl _ _).drew
  have f0 := Ext.cells (w := w1.drew) (M := fun _ => False) P0 (fun h => h)
  have ew0 : IntKind.i64.wrap (a.a.toNat : Int) = (a.a.toNat : Int) := IntWalk.i64_in _ (by omega)
  have ew1 : IntKind.i64.wrap (a.b.toNat : Int) = (a.b.toNat : Int) := IntWalk.i64_in _ (by omega)
  have ew2 : IntKind.i64.wrap (a.c.toNat : Int) = (a.c.toNat : Int) := IntWalk.i64_in _ (by omega)
  have ew3 : IntKind.i64.wrap (a.d.toNat : Int) = (a.d.toNat : Int) := IntWalk.i64_in _ (by omega)
  refine rg_begin (fun _ => False) (by kernel_rfl) ?_
  refine rg_take (v := ?_) 0 rfl (by kernel_rfl) (by kernel_rfl) (by kernel_rfl) (fun _ _ _ h => h) (by rfl) ?_ ?_; rotate_left
  · (intro x hx; go_simp; first | done | with_reducible rfl | (rw [if_pos (by omega)]; try with_reducible rfl) | (rw [if_neg (by omega)]; try with_reducible rfl))
  try simp only [Act.put, List.setIfInBounds_toArray, List.set_cons_zero, List.set_cons_succ]
  refine rg_take (v := ?_) 1 rfl (by kernel_rfl) (by kernel_rfl) (by kernel_rfl) (fun _ _ _ h => h) (by rfl) ?_ ?_; rotate_left
  · (intro x hx; go_simp; first | done | with_reducible rfl | (rw [if_pos (by omega)]; try with_reducible rfl) | (rw [if_neg (by omega)]; try with_reducible rfl))
  try simp only [Act.put, List.setIfInBounds_toArray, List.set_cons_zero, List.set_cons_succ]
  refine rg_take (v := ?_) 2 rfl (by kernel_rfl) (by kernel_rfl) (by kernel_rfl) (fun _ _ _ h => h) (by rfl) ?_ ?_; rotate_left
  · (intro x hx; go_simp; first | done | with_reducible rfl | (rw [if_pos (by omega)]; try with_reducible rfl) | (rw [if_neg (by omega)]; try with_reducible rfl))
  try simp only [Act.put, List.setIfInBounds_toArray, List.set_cons_zero, List.set_cons_succ]
  refine rg_take (v := ?_) 5 rfl (by kernel_rfl) (by kernel_rfl) (by kernel_rfl) (fun _ _ _ h => h) (by rfl) ?_ ?_; rotate_left
  · (intro x hx; go_simp; first | done | with_reducible rfl | (rw [if_pos (by omega)]; try with_reducible rfl) | (rw [if_neg (by omega)]; try with_reducible rfl))
  try simp only [Act.put, List.setIfInBounds_toArray, List.set_cons_zero, List.set_cons_succ]
  refine rg_take (v := ?_) 6 rfl (by kernel_rfl) (by kernel_rfl) (by kernel_rfl) (fun _ _ _ h => h) (by rfl) ?_ ?_; rotate_left
  · (intro x hx; go_simp; first | done | with_reducible rfl | (rw [if_pos (by omega)]; try with_reducible rfl) | (rw [if_neg (by omega)]; try with_reducible rfl))
  try simp only [Act.put, List.setIfInBounds_toArray, List.set_cons_zero, List.set_cons_succ]
  refine rg_take (v := ?_) 7 rfl (by kernel_rfl) (by kernel_rfl) (by kernel_rfl) (fun _ _ _ h => h) (by rfl) ?_ ?_; rotate_left
  · (intro x hx; go_simp; first | done | with_reducible rfl | (rw [if_pos (by omega)]; try with_reducible rfl) | (rw [if_neg (by omega)]; try with_reducible rfl))
  try simp only [Act.put, List.setIfInBounds_toArray, List.set_cons_zero, List.set_cons_succ]
  refine rg_take (v := ?_) 11 rfl (by kernel_rfl) (by kernel_rfl) (by kernel_rfl) (fun _ _ _ h => h) (by rfl) ?_ ?_; rotate_left
  · (intro x hx; go_simp; first | done | with_reducible rfl | (rw [if_pos (by omega)]; try with_reducible rfl) | (rw [if_neg (by omega)]; try with_reducible rfl))
  try simp only [Act.put, List.setIfInBounds_toArray, List.set_cons_zero, List.set_cons_succ]
  refine rg_take (v := ?_) 12 rfl (by kernel_rfl) (by kernel_rfl) (by kernel_rfl) (fun _ _ _ h => h) (by rfl) ?_ ?_; rotate_left
  · (intro x hx; go_simp; first | done | with_reducible rfl | (rw [if_pos (by omega)]; try with_reducible rfl) | (rw [if_neg (by omega)]; try with_reducible rfl))
  try simp only [Act.put, List.setIfInBounds_toArray, List.set_cons_zero, List.set_cons_succ]
  refine rg_take (v := ?_) 13 rfl (by kernel_rfl) (by kernel_rfl) (by kernel_rfl) (fun _ _ _ h => h) (by rfl) ?_ ?_; rotate_left
  · (intro x hx; go_simp; first | done | with_reducible rfl | (rw [if_pos (by omega)]; try with_reducible rfl) | (rw [if_neg (by omega)]; try with_reducible rfl))
  try simp only [Act.put, List.setIfInBounds_toArray, List.set_cons_zero, List.set_cons_succ]
  refine rg_take (v := ?_) 17 rfl (by kernel_rfl) (by kernel_rfl) (by kernel_rfl) (fun _ _ _ h => h) (by rfl) ?_ ?_; rotate_left
  · (intro x hx; go_simp; first | done | with_reducible rfl | (rw [if_pos (by omega)]; try with_reducible rfl) | (rw [if_neg (by omega)]; try with_reducible rfl))
  try simp only [Act.put, List.setIfInBounds_toArray, List.set_cons_zero, List.set_cons_succ]
  refine rg_take (v := ?_) 18 rfl (by kernel_rfl) (by kernel_rfl) (by kernel_rfl) (fun _ _ _ h => h) (by rfl) ?_ ?_; rotate_left
  · (intro x hx; go_simp; first | done | with_reducible rfl | (rw [if_pos (by omega)]; try with_reducible rfl) | (rw [if_neg (by omega)]; try with_reducible rfl))
  try simp only [Act.put, List.setIfInBounds_toArray, List.set_cons_zero, List.set_cons_succ]
  refine rg_take (v := ?_) 19 rfl (by kernel_rfl) (by kernel_rfl) (by kernel_rfl) (fun _ _ _ h => h) (by rfl) ?_ ?_; rotate_left
  · (intro x hx; go_simp; first | done | with_reducible rfl | (rw [if_pos (by omega)]; try with_reducible rfl) | (rw [if_neg (by omega)]; try with_reducible rfl))
  try simp only [Act.put, List.setIfInBounds_toArray, List.set_cons_zero, List.set_cons_succ]
  refine rg_step 3 rfl (by kernel_rfl) (by rfl) (fun K hK => ?_)
  go_simp
  refine (rtext_any _ a.a.toNat h0).mono ?_
  rw [H0.out]
  rintro e w2 ⟨rfl, q2⟩
  have r2 := r0.trans (q2.mono r0.size)
  refine hK.out _ _ (Ext.below_all _ q2) ?_
  clear hK K; try simp only [Act.put, List.setIfInBounds_toArray, List.set_cons_zero, List.set_cons_succ]
  refine rg_take (v := ?_) 4 rfl (by kernel_rfl) (by kernel_rfl) (by kernel_rfl) (fun _ _ _ h => h) (by rfl) ?_ ?_; rotate_left
  · (intro x hx; go_simp; first | done | with_reducible rfl | (rw [if_pos (by omega)]; try with_reducible rfl) | (rw [if_neg (by omega)]; try with_reducible rfl))
  try simp only [Act.put, List.setIfInBounds_toArray, List.set_cons_zero, List.set_cons_succ]
  refine rg_step 8 rfl (by kernel_rfl) (by rfl) (fun K hK => ?_)
  go_simp
  refine (rtext_any _ a.b.toNat h1).mono ?_
  rw [H1.out]
  rintro e w3 ⟨rfl, q3⟩
  have r3 := r2.trans (q3.mono r2.size)
  refine hK.out _ _ (Ext.below_all _ q3) ?_
  clear hK K; try simp only [Act.put, List.setIfInBounds_toArray, List.set_cons_zero, List.set_cons_succ]
  refine rg_take (v := ?_) 9 rfl (by kernel_rfl) (by kernel_rfl) (by kernel_rfl) (fun _ _ _ h => h) (by rfl) ?_ ?_; rotate_left
  · (intro x hx; go_simp; first | done | with_reducible rfl | (rw [if_pos (by omega)]; try with_reducible rfl) | (rw [if_neg (by omega)]; try with_reducible rfl))
  try simp only [Act.put, List.setIfInBounds_toArray, List.set_cons_zero, List.set_cons_succ]
  refine rg_take (v := ?_) 10 rfl (by kernel_rfl) (by kernel_rfl) (by kernel_rfl) (fun _ _ _ h => h) (by rfl) ?_ ?_; rotate_left
  · (intro x hx; go_simp; first | done | with_reducible rfl | (rw [if_pos (by omega)]; try with_reducible rfl) | (rw [if_neg (by omega)]; try with_reducible rfl))
  try simp only [Act.put, List.setIfInBounds_toArray, List.set_cons_zero, List.set_cons_succ]
  refine rg_step 14 rfl (by kernel_rfl) (by rfl) (fun K hK => ?_)
  go_simp
  refine (rtext_any _ a.c.toNat h2).mono ?_
  rw [H2.out]
  rintro e w4 ⟨rfl, q4⟩
  have r4 := r3.trans (q4.mono r3.size)
  refine hK.out _ _ (Ext.below_all _ q4) ?_
  clear hK K; try simp only [Act.put, List.setIfInBounds_toArray, List.set_cons_zero, List.set_cons_succ]
  refine rg_take (v := ?_) 15 rfl (by kernel_rfl) (by kernel_rfl) (by kernel_rfl) (fun _ _ _ h => h) (by rfl) ?_ ?_; rotate_left
  · (intro x hx; go_simp; first | done | with_reducible rfl | (rw [if_pos (by omega)]; try with_reducible rfl) | (rw [if_neg (by omega)]; try with_reducible rfl))
  try simp only [Act.put, List.setIfInBounds_toArray, List.set_cons_zero, List.set_cons_succ]
  refine rg_take (v := ?_) 16 rfl (by kernel_rfl) (by kernel_rfl) (by kernel_rfl) (fun _ _ _ h => h) (by rfl) ?_ ?_; rotate_left
  · (intro x hx; go_simp; first | done | with_reducible rfl | (rw [if_pos (by omega)]; try with_reducible rfl) | (rw [if_neg (by omega)]; try with_reducible rfl))
  try simp only [Act.put, List.setIfInBounds_toArray, List.set_cons_zero, List.set_cons_succ]
  refine rg_step 20 rfl (by kernel_rfl) (by rfl) (fun K hK => ?_)
  go_simp
  refine (rtext_any _ a.d.toNat h3).mono ?_
  rw [H3.out]
  rintro e w5 ⟨rfl, q5⟩
  have r5 := r4.trans (q5.mono r4.size)
  refine hK.out _ _ (Ext.below_all _ q5) ?_
  clear hK K; try simp only [Act.put, List.setIfInBounds_toArray, List.set_cons_zero, List.set_cons_succ]
  refine rg_take (v := ?_) 21 rfl (by kernel_rfl) (by kernel_rfl) (by kernel_rfl) (fun _ _ _ h => h) (by rfl) ?_ ?_; rotate_left
  · (intro x hx; go_simp; first | done | with_reducible rfl | (rw [if_pos (by omega)]; try with_reducible rfl) | (rw [if_neg (by omega)]; try with_reducible rfl))
  try simp only [Act.put, List.setIfInBounds_toArray, List.set_cons_zero, List.set_cons_succ]
  refine rg_take (v := ?_) 22 rfl (by kernel_rfl) (by kernel_rfl) (by kernel_rfl) (fun _ _ _ h => h) (by rfl) ?_ ?_; rotate_left
  · (intro x hx; go_simp; first | done | with_reducible rfl | (rw [if_pos (by omega)]; try with_reducible rfl) | (rw [if_neg (by omega)]; try with_reducible rfl))
  try simp only [Act.put, List.setIfInBounds_toArray, List.set_cons_zero, List.set_cons_succ]
  refine rg_done (by kernel_rfl) ?_
  go_wp2_with fail
  go_ret
  exact ⟨by rw [HC.out]; rfl, by rw [HG.out] at q1 ⊢; exact q1.trans (r5.mono (by rw [← HG.out]; have := q1.size; omega))⟩
end Go.Proofs.YtabmgggmailomaaDoor
