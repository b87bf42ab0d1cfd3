/-
  The walk of the statement ConfBack.
-/
import Derived.Test.YtnmdiageigbphaaGreatDoorBk1
import Derived.Test.YtnmdiageigbphaaGreatDoorTx2
import Derived.Test.YtnmdiageigbphaaGreatDoorKq15
namespace Go.Proofs.YtnmdiageigbphaaGreatDoor
open Go.RowKit

theorem textG_len (C : Cg) (h : chkG C = 0) : (textG C).length ≤ 16384 := by
  have h1 := parse_textG C h
  rw [parseG] at h1
  split at h1
  · injection h1 with _ h1; injection h1 with _ h1; cases h1
  · rename_i h2
    omega
set_option maxRecDepth 100000 in
set_option maxHeartbeats 8000000 in
theorem confBack_long (w : World) (hm : mlIs w) (s : ByteArray) (hs : 3000 < s.size) : Calls Tryz.prog 6 #[.string s] w (TruePost w) := by
  have d1 : decide (3000 < (s.size : Int)) = true := decide_eq_true (by omega)
  go_enter Tryz.func6, Tryz.ntmps6
  go_wp2_with fail
  refine (awake10_any w hm).mono ?_
  rintro e w1 ⟨rfl, q1⟩
  go_wp2_with fail
  go_ret
  exact ⟨rfl, q1⟩
set_option maxRecDepth 100000 in
set_option maxHeartbeats 8000000 in
theorem confBack_bad (w : World) (hm : mlIs w) (t : List UInt8) (ht : t.length ≤ 3000) (C : Cg) (ln er : Int) (hp : parseG t = (C, ln, er)) (her : er ≠ 0) : Calls Tryz.prog 6 #[.string (str t)] w (TruePost w) := by
  have hts : (str t).size = t.length := rfl
  have d1 : decide (3000 < (t.length : Int)) = false := decide_eq_false (by omega)
  have d2 : (er != 0) = true := by rw [bne_iff_ne]; exact her
  have hpar := fun w hm => parse_all w hm t (by omega)
  rw [hp] at hpar
  obtain ⟨c, lf, lo⟩ := C
  have HP := Lib.hid hpar
  have hmp := hm.pos
  clear hpar hp her ht
  go_enter Tryz.func6, Tryz.ntmps6
  go_wp2_with fail
  refine (awake10_any w hm).mono ?_
  rintro e w1 ⟨rfl, q1⟩
  have m1 := hm.below q1 hmp
  go_wp2_with fail
  refine (HP.out w1 m1).mono ?_
  rintro e w2 ⟨A, n, k, A2, n2, k2, rfl, _, _, CX, q2⟩
  have b2 := q1.trans (q2.mono q1.size)
  clear CX m1 q1 q2
  simp only
  go_upto_region 6 with ((with_reducible apply at_store_new 32); (case hx => exact rfl); (case hy => exact rfl); (case hg => first | rfl | simp); (case hi => kernel_rfl); (case hold => rfl); (case h1 => kernel_rfl))
  have b3 : Below w.heap.size w (w2.alloc (.cells (cfC c (.slice A n k) (.slice A2 n2 k2)) 32)) := b2.alloc b2.size _
  generalize w2.alloc (.cells (cfC c (.slice A n k) (.slice A2 n2 k2)) 32) = w3 at b3 ⊢
  go_wp2_with fail
  go_ret
  exact ⟨rfl, b3⟩
set_option maxRecDepth 100000 in
set_option maxHeartbeats 16000000 in
theorem confBack_good (w : World) (hm : mlIs w) (hpw : powIs w) (t : List UInt8) (ht : t.length ≤ 3000) (c : Cf) (lf : List Fx) (lo : List Opn) (ln : Int) (hp : parseG t = (⟨c, lf, lo⟩, ln, 0)) : Calls Tryz.prog 6 #[.string (str t)] w (TruePost w) := by
  have hts : (str t).size = t.length := rfl
  have d1 : decide (3000 < (t.length : Int)) = false := decide_eq_false (by omega)
  obtain ⟨hk, rfl⟩ := parse_chk hp
  have hpar := fun w hm => parse_all w hm t (by omega)
  rw [hp] at hpar
  have HP := Lib.hid hpar
  have hpar2 := fun w hm => parse_all w hm (textG ⟨c, lf, lo⟩) (by have := textG_len _ hk; omega)
  rw [parse_textG _ hk] at hpar2
  have htx := fun w hp A n k A2 n2 k2 hC => text_in w hp c lf lo A n k A2 n2 k2 hC hk
  obtain ⟨TG, hTG⟩ : ∃ x, textG ⟨c, lf, lo⟩ = x := ⟨_, rfl⟩
  rw [hTG] at hpar2 htx
  have HP2 := Lib.hid hpar2
  have HTX := Lib.hid htx
  have HCK := Lib.hid (show ∀ w A n k A2 n2 k2, CR w w.heap.size ⟨c, lf, lo⟩ A n A2 n2 → Calls Tryz.prog 13 #[.agg (cfC c (.slice A n k) (.slice A2 n2 k2))] w (fun e w' => e = .returned (.int .i64 0) ∧ Below w.heap.size w w') from fun w A n k A2 n2 k2 hC => by
    have h := check_all w ⟨c, lf, lo⟩ A n k A2 n2 k2 hC
    rwa [hk] at h)
  have hmp := hm.pos
  clear hpar hpar2 htx hp hTG ht hk
  go_enter Tryz.func6, Tryz.ntmps6
  go_wp2_with fail
  refine (awake10_any w hm).mono ?_
  rintro e w1 ⟨rfl, q1⟩
  have m1 := hm.below q1 hmp
  have p1 := hpw.below q1
  clear hm hpw
  go_wp2_with fail
  refine (HP.out w1 m1).mono ?_
  rintro e w2 ⟨A, n, k, A2, n2, k2, rfl, _, _, CX, q2⟩
  have b2 := q1.trans (q2.mono q1.size)
  have m2 := m1.below q2 m1.pos
  have p2 := p1.below q2
  have HCX := Lib.hid CX
  clear CX m1 q1 q2 p1
  simp only
  go_upto_region 6 with ((with_reducible apply at_store_new 32); (case hx => exact rfl); (case hy => exact rfl); (case hg => first | rfl | simp); (case hi => kernel_rfl); (case hold => rfl); (case h1 => kernel_rfl))
  have qq3 : Below w2.heap.size w2 (w2.alloc (.cells (cfC c (.slice A n k) (.slice A2 n2 k2)) 32)) := (Below.refl _ w2).alloc (Nat.le_refl _) _
  have C3 := heap_alloc_new w2 (.cells (cfC c (.slice A n k) (.slice A2 n2 k2)) 32)
  have CR3 := HCX.out.next qq3
  have b3 := b2.trans (qq3.mono b2.size)
  have m3 := m2.below qq3 m2.pos
  have p3 := p2.below qq3
  obtain ⟨gc, hgc⟩ : ∃ g, w2.heap.size = g := ⟨_, rfl⟩
  rw [hgc] at C3 ⊢
  generalize w2.alloc (.cells (cfC c (.slice A n k) (.slice A2 n2 k2)) 32) = w3 at C3 CR3 b3 m3 p3 ⊢
  clear qq3 b2 m2 p2 hgc HCX
  go_wp2_with ((with_reducible apply at_load_row 32); (case hx => exact rfl); (case hg => exact C3); (case hu => exact Tryz.underlying32); (case hd => rfl); (case hi => kernel_rfl))
  refine (HTX.out w3 p3 A n k A2 n2 k2 CR3).mono ?_
  rintro e w4 ⟨rfl, q4⟩
  have C4 := below_at q4 C3 (heap_lt C3)
  have CR4 := CR3.next q4
  have b4 := b3.trans (q4.mono b3.size)
  have m4 := m3.below q4 m3.pos
  have p4 := p3.below q4
  clear C3 CR3 b3 m3 p3 q4
  go_wp2_with fail
  refine (HP2.out w4 m4).mono ?_
  rintro e w5 ⟨B, nb, kb, B2, nb2, kb2, rfl, _, _, DX, q5⟩
  have C5 := below_at q5 C4 (heap_lt C4)
  have CR5 := CR4.next q5
  have b5 := b4.trans (q5.mono b4.size)
  have m5 := m4.below q5 m4.pos
  have p5 := p4.below q5
  have HDX := Lib.hid DX
  clear C4 CR4 b4 m4 p4 q5 DX
  simp only
  go_upto_region 10 with ((with_reducible apply at_store_new 32); (case hx => exact rfl); (case hy => exact rfl); (case hg => first | rfl | simp); (case hi => kernel_rfl); (case hold => rfl); (case h1 => kernel_rfl))
  have qq6 : Below w5.heap.size w5 (w5.alloc (.cells (cfC c (.slice B nb kb) (.slice B2 nb2 kb2)) 32)) := (Below.refl _ w5).alloc (Nat.le_refl _) _
  have D6 := heap_alloc_new w5 (.cells (cfC c (.slice B nb kb) (.slice B2 nb2 kb2)) 32)
  have DR6 := HDX.out.next qq6
  have C6 := below_at qq6 C5 (heap_lt C5)
  have CR6 := CR5.next qq6
  have b6 := b5.trans (qq6.mono b5.size)
  have p6 := p5.below qq6
  obtain ⟨gd, hgd⟩ : ∃ g, w5.heap.size = g := ⟨_, rfl⟩
  rw [hgd] at D6 ⊢
  generalize w5.alloc (.cells (cfC c (.slice B nb kb) (.slice B2 nb2 kb2)) 32) = w6 at C6 CR6 D6 DR6 b6 p6 ⊢
  clear qq6 b5 m5 p5 hgd HDX C5 CR5
  have r0 : Below w6.heap.size w6 w6.drew := (Below.refl _ _).drew
  have KC := Ext.at_ (M := fun _ => False) (w := w6.drew) C6 (fun h => h)
  have KD := Ext.at_ (M := fun _ => False) (w := w6.drew) D6 (fun h => h)
  refine rg_begin (fun _ => False) (by kernel_rfl) ?_
  refine rg_take (v := ?_) 0 rfl (by kernel_rfl) (by kernel_rfl) (by kernel_rfl) (fun _ _ _ h => h) (by rfl) ?_ ?_; rotate_left
  · (intro x hx; go_simp; first | done | with_reducible rfl | (rw [if_pos (by omega)]; try with_reducible rfl) | (rw [if_neg (by omega)]; try with_reducible rfl))
  try simp only [Act.put, List.setIfInBounds_toArray, List.set_cons_zero, List.set_cons_succ]
  refine rg_take (v := ?_) 1 rfl (by kernel_rfl) (by kernel_rfl) (by kernel_rfl) (fun _ _ _ h => h) (by rfl) ?_ ?_; rotate_left
  · (intro x hx; go_simp; first | done | with_reducible rfl | (rw [if_pos (by omega)]; try with_reducible rfl) | (rw [if_neg (by omega)]; try with_reducible rfl))
  try simp only [Act.put, List.setIfInBounds_toArray, List.set_cons_zero, List.set_cons_succ]
  refine rg_take (v := ?_) 2 rfl (by kernel_rfl) (by kernel_rfl) (by kernel_rfl) (fun _ _ _ h => h) (by rfl) ?_ ?_; rotate_left
  · (intro x hx; go_simp; first | done | with_reducible rfl | (rw [if_pos (by omega)]; try with_reducible rfl) | (rw [if_neg (by omega)]; try with_reducible rfl))
  try simp only [Act.put, List.setIfInBounds_toArray, List.set_cons_zero, List.set_cons_succ]
  refine rg_take (v := ?_) 3 rfl (by kernel_rfl) (by kernel_rfl) (by kernel_rfl) (fun _ _ _ h => h) (by rfl) ?_ ?_; rotate_left
  · (intro x hx; go_simp; first | done | with_reducible rfl | (rw [if_pos (by omega)]; try with_reducible rfl) | (rw [if_neg (by omega)]; try with_reducible rfl))
  try simp only [Act.put, List.setIfInBounds_toArray, List.set_cons_zero, List.set_cons_succ]
  refine rg_take (v := ?_) 4 rfl (by kernel_rfl) (by kernel_rfl) (by kernel_rfl) (fun _ _ _ h => h) (by rfl) ?_ ?_; rotate_left
  · (intro x hx; go_simp; first | done | with_reducible rfl | (rw [if_pos (by omega)]; try with_reducible rfl) | (rw [if_neg (by omega)]; try with_reducible rfl))
  try simp only [Act.put, List.setIfInBounds_toArray, List.set_cons_zero, List.set_cons_succ]
  refine rg_take (v := ?_) 5 rfl (by kernel_rfl) (by kernel_rfl) (by kernel_rfl) (fun _ _ _ h => h) (by rfl) ?_ ?_; rotate_left
  · (intro x hx; go_simp; first | done | with_reducible rfl | (rw [if_pos (by omega)]; try with_reducible rfl) | (rw [if_neg (by omega)]; try with_reducible rfl))
  try simp only [Act.put, List.setIfInBounds_toArray, List.set_cons_zero, List.set_cons_succ]
  refine rg_take (v := ?_) 6 rfl (by kernel_rfl) (by kernel_rfl) (by kernel_rfl) (fun _ _ _ h => h) (by rfl) ?_ ?_; rotate_left
  · (intro x hx; go_simp; first | done | with_reducible rfl | (rw [if_pos (by omega)]; try with_reducible rfl) | (rw [if_neg (by omega)]; try with_reducible rfl))
  try simp only [Act.put, List.setIfInBounds_toArray, List.set_cons_zero, List.set_cons_succ]
  refine rg_take (v := .agg (cfC c (.slice A n k) (.slice A2 n2 k2))) 7 rfl (by kernel_rfl) (by kernel_rfl) (by kernel_rfl) (fun _ _ _ h => h) (by rfl) ?_ ?_
  · (intro x hx; apply run_load_big; (case ho => exact rfl); (case hv => exact rfl); (case hg => exact KC x hx); (case hu => exact Tryz.underlying32); (case hd => rfl); (case hi => kernel_rfl))
  try simp only [Act.put, List.setIfInBounds_toArray, List.set_cons_zero, List.set_cons_succ]
  refine rg_take (v := .agg (cfC c (.slice B nb kb) (.slice B2 nb2 kb2))) 9 rfl (by kernel_rfl) (by kernel_rfl) (by kernel_rfl) (fun _ _ _ h => h) (by rfl) ?_ ?_
  · (intro x hx; apply run_load_big; (case ho => exact rfl); (case hv => exact rfl); (case hg => exact KD x hx); (case hu => exact Tryz.underlying32); (case hd => rfl); (case hi => kernel_rfl))
  try simp only [Act.put, List.setIfInBounds_toArray, List.set_cons_zero, List.set_cons_succ]
  refine rg_step 8 rfl (by kernel_rfl) (by rfl) (fun K hK => ?_)
  go_simp
  refine (own_all _ ⟨c, lf, lo⟩ A n k A2 n2 k2 (CR6.next r0)).mono ?_
  rintro e u1 ⟨Oa, on, ok, Oa2, on2, ok2, rfl, _, _, OC, p1⟩
  replace r0 := r0.trans (p1.mono r0.size)
  have KC := Ext.at_ (M := fun _ => False) (w := u1) (below_at r0 C6 (heap_lt C6)) (fun h => h)
  have KD := Ext.at_ (M := fun _ => False) (w := u1) (below_at r0 D6 (heap_lt D6)) (fun h => h)
  refine hK.out _ _ (Ext.below_all _ p1) ?_
  clear hK K; try simp only [Act.put, List.setIfInBounds_toArray, List.set_cons_zero, List.set_cons_succ]
  refine rg_step 10 rfl (by kernel_rfl) (by rfl) (fun K hK => ?_)
  go_simp
  refine (own_all _ ⟨c, lf, lo⟩ B nb kb B2 nb2 kb2 (DR6.next r0)).mono ?_
  rintro e u2 ⟨Va, vn, vk, Va2, vn2, vk2, rfl, _, _, VC, p2⟩
  replace r0 := r0.trans (p2.mono r0.size)
  have OC := OC.next p2
  have KC := Ext.at_ (M := fun _ => False) (w := u2) (below_at r0 C6 (heap_lt C6)) (fun h => h)
  have KD := Ext.at_ (M := fun _ => False) (w := u2) (below_at r0 D6 (heap_lt D6)) (fun h => h)
  refine hK.out _ _ (Ext.below_all _ p2) ?_
  clear hK K; try simp only [Act.put, List.setIfInBounds_toArray, List.set_cons_zero, List.set_cons_succ]
  refine rg_step 11 rfl (by kernel_rfl) (by rfl) (fun K hK => ?_)
  go_simp
  refine (same_all _ ⟨c, lf, lo⟩ Oa on ok Oa2 on2 ok2 OC Va vn vk Va2 vn2 vk2 VC).mono ?_
  rintro e u3 ⟨rfl, p3⟩
  replace r0 := r0.trans (p3.mono r0.size)
  have KC := Ext.at_ (M := fun _ => False) (w := u3) (below_at r0 C6 (heap_lt C6)) (fun h => h)
  have KD := Ext.at_ (M := fun _ => False) (w := u3) (below_at r0 D6 (heap_lt D6)) (fun h => h)
  refine hK.out _ _ (Ext.below_all _ p3) ?_
  clear hK K; try simp only [Act.put, List.setIfInBounds_toArray, List.set_cons_zero, List.set_cons_succ]
  refine rg_take (v := ?_) 12 rfl (by kernel_rfl) (by kernel_rfl) (by kernel_rfl) (fun _ _ _ h => h) (by rfl) ?_ ?_; rotate_left
  · (intro x hx; go_simp; first | done | with_reducible rfl | (rw [if_pos (by omega)]; try with_reducible rfl) | (rw [if_neg (by omega)]; try with_reducible rfl))
  try simp only [Act.put, List.setIfInBounds_toArray, List.set_cons_zero, List.set_cons_succ]
  refine rg_take (v := ?_) 13 rfl (by kernel_rfl) (by kernel_rfl) (by kernel_rfl) (fun _ _ _ h => h) (by rfl) ?_ ?_; rotate_left
  · (intro x hx; go_simp; first | done | with_reducible rfl | (rw [if_pos (by omega)]; try with_reducible rfl) | (rw [if_neg (by omega)]; try with_reducible rfl))
  try simp only [Act.put, List.setIfInBounds_toArray, List.set_cons_zero, List.set_cons_succ]
  refine rg_take (v := .agg (cfC c (.slice B nb kb) (.slice B2 nb2 kb2))) 14 rfl (by kernel_rfl) (by kernel_rfl) (by kernel_rfl) (fun _ _ _ h => h) (by rfl) ?_ ?_
  · (intro x hx; apply run_load_big; (case ho => exact rfl); (case hv => exact rfl); (case hg => exact KD x hx); (case hu => exact Tryz.underlying32); (case hd => rfl); (case hi => kernel_rfl))
  try simp only [Act.put, List.setIfInBounds_toArray, List.set_cons_zero, List.set_cons_succ]
  refine rg_take (v := ?_) 16 rfl (by kernel_rfl) (by kernel_rfl) (by kernel_rfl) (fun _ _ _ h => h) (by rfl) ?_ ?_; rotate_left
  · (intro x hx; go_simp; first | done | with_reducible rfl | (rw [if_pos (by omega)]; try with_reducible rfl) | (rw [if_neg (by omega)]; try with_reducible rfl))
  try simp only [Act.put, List.setIfInBounds_toArray, List.set_cons_zero, List.set_cons_succ]
  refine rg_step 15 rfl (by kernel_rfl) (by rfl) (fun K hK => ?_)
  go_simp
  refine (HTX.out _ (p6.below r0) B nb kb B2 nb2 kb2 (DR6.next r0)).mono ?_
  rintro e u4 ⟨rfl, p4⟩
  replace r0 := r0.trans (p4.mono r0.size)
  have KC := Ext.at_ (M := fun _ => False) (w := u4) (below_at r0 C6 (heap_lt C6)) (fun h => h)
  refine hK.out _ _ (Ext.below_all _ p4) ?_
  clear hK K; try simp only [Act.put, List.setIfInBounds_toArray, List.set_cons_zero, List.set_cons_succ]
  refine rg_take (v := ?_) 17 rfl (by kernel_rfl) (by kernel_rfl) (by kernel_rfl) (fun _ _ _ h => h) (by rfl) ?_ ?_; rotate_left
  · (intro x hx; go_simp; first | done | with_reducible rfl | (rw [if_pos (by omega)]; try with_reducible rfl) | (rw [if_neg (by omega)]; try with_reducible rfl))
  try simp only [Act.put, List.setIfInBounds_toArray, List.set_cons_zero, List.set_cons_succ]
  refine rg_take (v := ?_) 18 rfl (by kernel_rfl) (by kernel_rfl) (by kernel_rfl) (fun _ _ _ h => h) (by rfl) ?_ ?_; rotate_left
  · (intro x hx; go_simp; first | done | with_reducible rfl | (rw [if_pos (by omega)]; try with_reducible rfl) | (rw [if_neg (by omega)]; try with_reducible rfl))
  try simp only [Act.put, List.setIfInBounds_toArray, List.set_cons_zero, List.set_cons_succ]
  refine rg_take (v := ?_) 19 rfl (by kernel_rfl) (by kernel_rfl) (by kernel_rfl) (fun _ _ _ h => h) (by rfl) ?_ ?_; rotate_left
  · (intro x hx; go_simp; first | done | with_reducible rfl | (rw [if_pos (by omega)]; try with_reducible rfl) | (rw [if_neg (by omega)]; try with_reducible rfl))
  try simp only [Act.put, List.setIfInBounds_toArray, List.set_cons_zero, List.set_cons_succ]
  refine rg_take (v := .agg (cfC c (.slice A n k) (.slice A2 n2 k2))) 20 rfl (by kernel_rfl) (by kernel_rfl) (by kernel_rfl) (fun _ _ _ h => h) (by rfl) ?_ ?_
  · (intro x hx; apply run_load_big; (case ho => exact rfl); (case hv => exact rfl); (case hg => exact KC x hx); (case hu => exact Tryz.underlying32); (case hd => rfl); (case hi => kernel_rfl))
  try simp only [Act.put, List.setIfInBounds_toArray, List.set_cons_zero, List.set_cons_succ]
  refine rg_step 21 rfl (by kernel_rfl) (by rfl) (fun K hK => ?_)
  go_simp
  refine (HCK.out _ A n k A2 n2 k2 (CR6.next r0)).mono ?_
  rintro e u5 ⟨rfl, p5⟩
  replace r0 := r0.trans (p5.mono r0.size)
  refine hK.out _ _ (Ext.below_all _ p5) ?_
  clear hK K; try simp only [Act.put, List.setIfInBounds_toArray, List.set_cons_zero, List.set_cons_succ]
  refine rg_take (v := ?_) 22 rfl (by kernel_rfl) (by kernel_rfl) (by kernel_rfl) (fun _ _ _ h => h) (by rfl) ?_ ?_; rotate_left
  · (intro x hx; go_simp; first | done | with_reducible rfl | (rw [if_pos (by omega)]; try with_reducible rfl) | (rw [if_neg (by omega)]; try with_reducible rfl))
  try simp only [Act.put, List.setIfInBounds_toArray, List.set_cons_zero, List.set_cons_succ]
  refine rg_take (v := ?_) 23 rfl (by kernel_rfl) (by kernel_rfl) (by kernel_rfl) (fun _ _ _ h => h) (by rfl) ?_ ?_; rotate_left
  · (intro x hx; go_simp; first | done | with_reducible rfl | (rw [if_pos (by omega)]; try with_reducible rfl) | (rw [if_neg (by omega)]; try with_reducible rfl))
  try simp only [Act.put, List.setIfInBounds_toArray, List.set_cons_zero, List.set_cons_succ]
  refine rg_take (v := ?_) 24 rfl (by kernel_rfl) (by kernel_rfl) (by kernel_rfl) (fun _ _ _ h => h) (by rfl) ?_ ?_; rotate_left
  · (intro x hx; go_simp; first | done | with_reducible rfl | (rw [if_pos (by omega)]; try with_reducible rfl) | (rw [if_neg (by omega)]; try with_reducible rfl))
  try simp only [Act.put, List.setIfInBounds_toArray, List.set_cons_zero, List.set_cons_succ]
  refine rg_done (by kernel_rfl) ?_
  go_wp2_with fail
  go_ret
  exact ⟨rfl, b6.trans (r0.mono b6.size)⟩
theorem confBack_any (w : World) (hm : mlIs w) (hpw : powIs w) (s : ByteArray) (_ : s.size ≤ maxLen) : Calls Tryz.prog 6 #[.string s] w (TruePost w) := by
  rcases Nat.lt_or_ge 3000 s.size with h | h
  · exact confBack_long w hm s h
  · obtain ⟨t, rfl⟩ : ∃ t, s = str t := ⟨s.data.toList, rfl⟩
    have ht : t.length ≤ 3000 := h
    obtain ⟨⟨⟨c, lf, lo⟩, ln, er⟩, hp⟩ : ∃ v, parseG t = v := ⟨_, rfl⟩
    by_cases he : er = 0
    · subst he
      exact confBack_good w hm hpw t ht c lf lo ln hp
    · exact confBack_bad w hm t ht _ ln er hp he
end Go.Proofs.YtnmdiageigbphaaGreatDoor
