/-
  The walk of the statement ConfChecks.
-/
import Derived.Test.YtnmdiageigbphaaGreatDoorCk2
import Derived.Test.YtnmdiageigbphaaGreatDoorRe3
import Derived.Test.YtnmdiageigbphaaGreatDoorKFc
import Derived.Test.YtnmdiageigbphaaGreatDoorKq15
namespace Go.Proofs.YtnmdiageigbphaaGreatDoor
open Go.RowKit

set_option maxRecDepth 100000 in
set_option maxHeartbeats 4000000 in
/-- What may not be is written as nothing. -/
theorem text_no (w : World) (C : Cg) (A : Option Addr) (n k : Nat) (A2 : Option Addr) (n2 k2 : Nat) (hC : CR w w.heap.size C A n A2 n2) (hk : chkG C ≠ 0) :
    Calls Tryz.prog 12 #[.agg (cfC C.c (.slice A n k) (.slice A2 n2 k2))] w (fun e w' => e = .returned (.string ⟨#[]⟩) ∧ Below w.heap.size w w') := by
  have P0 := heap_alloc_new w (.cells (cfC C.c (.slice A n k) (.slice A2 n2 k2)) 32)
  have b0 : Below w.heap.size w (w.alloc (.cells (cfC C.c (.slice A n k) (.slice A2 n2 k2)) 32)) := (Below.refl _ w).alloc (Nat.le_refl _) _
  have hC0 := hC.next b0
  have d1 : (chkG C != 0) = true := by rw [bne_iff_ne]; exact hk
  have hck := check_all (w.alloc (.cells (cfC C.c (.slice A n k) (.slice A2 n2 k2)) 32)) C A n k A2 n2 k2 hC0
  obtain ⟨er, her⟩ : ∃ e, chkG C = e := ⟨_, rfl⟩
  rw [her] at d1 hck
  have HCK := Lib.hid hck
  clear hck her hk hC hC0
  go_enter Tryz.func12, Tryz.ntmps12
  go_upto_region 1 with fail
  generalize w.alloc (.cells (cfC C.c (.slice A n k) (.slice A2 n2 k2)) 32) = w0 at P0 b0 HCK ⊢
  obtain ⟨g0, hg⟩ : ∃ g, w.heap.size = g := ⟨_, rfl⟩
  have HB := Lib.hid b0
  rw [hg] at P0 ⊢
  clear hg b0
  go_wp2_with ((with_reducible apply at_load_row 32); (case hx => exact rfl); (case hg => exact P0); (case hu => exact Tryz.underlying32); (case hd => rfl); (case hi => kernel_rfl))
  refine HCK.out.mono ?_
  rintro e w1 ⟨rfl, q1⟩
  have b1 := HB.out.trans (q1.mono HB.out.size)
  go_wp2_with fail
  go_ret
  exact ⟨rfl, b1⟩
abbrev cKC (vf vo : Value) : Array Value := #[.int .u8 10, .int .u8 0, .int .u8 0, .int .u8 1, .int .u8 10, .int .u8 0, .int .u8 0, .int .u8 0, .int .i64 26, .int .u8 2, .int .u8 0, .int .u8 0, .int .u8 0, .int .u8 0, .int .u8 1,
  .int .u8 2, .int .u8 0, .int .u8 0, .int .u8 0, .int .u8 0, .int .u8 2, .int .u8 10, .int .u8 0, .int .u8 0, .int .u8 2, .int .u8 10, .int .u8 0, .int .u8 0, .int .u8 33, .int .i64 3600, .int .u8 9, .int .u8 9, .int .u8 9, .int .u8 9,
  .int .i64 120, .int .i64 7200, .int .i64 30, .int .i64 40000, vf, vo]
set_option maxRecDepth 100000 in
set_option maxHeartbeats 8000000 in
theorem confChecks_many (w : World) (hm : mlIs w) (c : Cf) (A : Option Addr) (n k : Nat) (A2 : Option Addr) (n2 k2 : Nat) (h : 40 < n ∨ 40 < n2) : Calls Tryz.prog 5 #[.agg (cfC c (.slice A n k) (.slice A2 n2 k2))] w (TruePost w) := by
  have P0 := heap_alloc_new w (.cells (cfC c (.slice A n k) (.slice A2 n2 k2)) 32)
  have b0 : Below w.heap.size w (w.alloc (.cells (cfC c (.slice A n k) (.slice A2 n2 k2)) 32)) := (Below.refl _ w).alloc (Nat.le_refl _) _
  have hmp := hm.pos
  rcases Nat.lt_or_ge 40 n with h1 | h1
  case' inl =>
    have d1 : decide (40 < (n : Int)) = true := decide_eq_true (by omega)
  case' inr =>
    have d1 : decide (40 < (n : Int)) = false := decide_eq_false (by omega)
    have d2 : decide (40 < (n2 : Int)) = true := decide_eq_true (by omega)
  all_goals
    clear h h1
    go_enter Tryz.func5, Tryz.ntmps5
    go_upto_region 1 with fail
    generalize w.alloc (.cells (cfC c (.slice A n k) (.slice A2 n2 k2)) 32) = w0 at P0 b0 ⊢
    have m0 := hm.below b0 hmp
    obtain ⟨g, hg⟩ : ∃ g, w.heap.size = g := ⟨_, rfl⟩
    have HB := Lib.hid b0
    rw [hg] at P0 ⊢
    clear hg b0 hm hmp
    go_wp2_with fail
    refine (awake10_any w0 m0).mono ?_
    rintro e w1 ⟨rfl, q1⟩
    have P1 := below_at q1 P0 (heap_lt P0)
    have f1 := (cells_of P1).1
    have b1 := HB.out.trans (q1.mono HB.out.size)
    clear P0 m0 q1 P1
    go_wp2_with fail
    go_ret
    exact ⟨rfl, b1⟩
set_option maxRecDepth 100000 in
set_option maxHeartbeats 16000000 in
theorem confChecks_few (w : World) (hm : mlIs w) (hpw : powIs w) (c : Cf) (lf : List Fx) (lo : List Opn) (A : Option Addr) (n k : Nat) (A2 : Option Addr) (n2 k2 : Nat) (hC : CR w w.heap.size ⟨c, lf, lo⟩ A n A2 n2) (h1 : n ≤ 40) (h2 : n2 ≤ 40) :
    Calls Tryz.prog 5 #[.agg (cfC c (.slice A n k) (.slice A2 n2 k2))] w (TruePost w) := by
  have P0 := heap_alloc_new w (.cells (cfC c (.slice A n k) (.slice A2 n2 k2)) 32)
  have b0 : Below w.heap.size w (w.alloc (.cells (cfC c (.slice A n k) (.slice A2 n2 k2)) 32)) := (Below.refl _ w).alloc (Nat.le_refl _) _
  have hmp := hm.pos
  have d1 : decide (40 < (n : Int)) = false := decide_eq_false (by omega)
  have d2 : decide (40 < (n2 : Int)) = false := decide_eq_false (by omega)
  have hC0 := hC.next b0
  clear hC h1 h2
  go_enter Tryz.func5, Tryz.ntmps5
  go_upto_region 1 with fail
  generalize w.alloc (.cells (cfC c (.slice A n k) (.slice A2 n2 k2)) 32) = w0 at P0 b0 hC0 ⊢
  have m0 := hm.below b0 hmp
  have p0 := hpw.below b0
  obtain ⟨g, hg⟩ : ∃ g, w.heap.size = g := ⟨_, rfl⟩
  have HB := Lib.hid b0
  rw [hg] at P0 ⊢
  clear hg b0 hm hmp hpw
  go_wp2_with fail
  refine (awake10_any w0 m0).mono ?_
  rintro e w1 ⟨rfl, q1⟩
  have P1 := below_at q1 P0 (heap_lt P0)
  have f1 := (cells_of P1).1
  have b1 := HB.out.trans (q1.mono HB.out.size)
  have C1 := hC0.next q1
  have p1 := p0.below q1
  have HC1 := Lib.hid C1
  have HP1 := Lib.hid p1
  have HB1 := Lib.hid b1
  clear P0 m0 p0 q1 hC0 HB C1 p1 b1
  go_upto_region 5 with fail
  clear f1 d1 d2
  go_wp2_with ((with_reducible apply at_load_row 32); (case hx => exact rfl); (case hg => exact P1); (case hu => exact Tryz.underlying32); (case hd => rfl); (case hi => kernel_rfl))
  refine (own_all w1 ⟨c, lf, lo⟩ A n k A2 n2 k2 HC1.out).mono ?_
  rintro e w2 ⟨Oa, on, ok, Oa2, on2, ok2, rfl, _, _, OC, q2⟩
  have P2 := below_at q2 P1 (heap_lt P1)
  have HC2 := Lib.hid (HC1.out.next q2)
  have HP2 := Lib.hid (HP1.out.below q2)
  have HB2 := Lib.hid (HB1.out.trans (q2.mono HB1.out.size))
  clear P1 HC1 HP1 HB1 q2
  simp only
  go_wp2_with fail
  refine (rcheck_any w2 c lf lo Oa on ok Oa2 on2 ok2 OC).mono ?_
  rintro e w3 ⟨rfl, q3⟩
  have P3 := below_at q3 P2 (heap_lt P2)
  have HC3 := Lib.hid (HC2.out.next q3)
  have HP3 := Lib.hid (HP2.out.below q3)
  have HB3 := Lib.hid (HB2.out.trans (q3.mono HB2.out.size))
  clear P2 HC2 HP2 HB2 q3 OC
  go_upto_region 6 with fail
  go_wp2_with ((with_reducible apply at_load_row 32); (case hx => exact rfl); (case hg => exact P3); (case hu => exact Tryz.underlying32); (case hd => rfl); (case hi => kernel_rfl))
  refine (check_all w3 ⟨c, lf, lo⟩ A n k A2 n2 k2 HC3.out).mono ?_
  rintro e w4 ⟨rfl, q4⟩
  have P4 := below_at q4 P3 (heap_lt P3)
  have HC4 := Lib.hid (HC3.out.next q4)
  have HP4 := Lib.hid (HP3.out.below q4)
  have HB4 := Lib.hid (HB3.out.trans (q4.mono HB3.out.size))
  clear P3 HC3 HP3 HB3 q4
  rcases hck : checkG ⟨c, lf, lo⟩ with _ | _
  · have hk : chkG ⟨c, lf, lo⟩ = 1 := by rw [chkG, hck]; rfl
    have htx := text_no w4 ⟨c, lf, lo⟩ A n k A2 n2 k2 HC4.out (by rw [hk]; decide)
    rw [hk]
    clear hck hk
    go_wp2_with ((with_reducible apply at_load_guard 32); (case hx => exact rfl); (case hg => exact P4); (case hw => first | rfl | kernel_rfl); (case hu => exact Tryz.underlying32); (case hd => rfl); (case hi => kernel_rfl))
    refine htx.mono ?_
    rintro e w5 ⟨rfl, q5⟩
    have b5 := HB4.out.trans (q5.mono HB4.out.size)
    clear htx P4 q5
    go_wp2_with fail
    go_ret
    exact ⟨rfl, b5⟩
  · have hk : chkG ⟨c, lf, lo⟩ = 0 := by rw [chkG, hck]; rfl
    have htx := fun w hp hC => text_in w hp c lf lo A n k A2 n2 k2 hC hk
    have hrt := fun w A n k A2 n2 k2 hC => rtext10_any w c lf lo A n k A2 n2 k2 hC hk
    obtain ⟨TG, hTG⟩ : ∃ x, textG ⟨c, lf, lo⟩ = x := ⟨_, rfl⟩
    rw [hTG] at htx
    simp only [hTG] at hrt
    have HTX := Lib.hid htx
    have HRT := Lib.hid hrt
    rw [hk]
    clear hck hk htx hrt hTG
    go_upto_region 9 with fail
    have r0 : Below w4.heap.size w4 w4.drew := (Below.refl _ _).drew
    have KC := Ext.at_ (M := fun _ => False) (w := w4.drew) P4 (fun h => h)
    refine rg_begin (fun _ => False) (by kernel_rfl) ?_
    refine rg_take (v := .agg (cfC c (.slice A n k) (.slice A2 n2 k2))) 0 rfl (by kernel_rfl) (by kernel_rfl) (by kernel_rfl) (fun _ _ _ h => h) (by rfl) ?_ ?_
    · (intro x hx; apply run_load_big; (case ho => exact rfl); (case hv => exact rfl); (case hg => exact KC x hx); (case hu => exact Tryz.underlying32); (case hd => rfl); (case hi => kernel_rfl))
    try simp only [Act.put, List.setIfInBounds_toArray, List.set_cons_zero, List.set_cons_succ]
    refine rg_take (v := .agg (cfC c (.slice A n k) (.slice A2 n2 k2))) 2 rfl (by kernel_rfl) (by kernel_rfl) (by kernel_rfl) (fun _ _ _ h => h) (by rfl) ?_ ?_
    · (intro x hx; apply run_load_big; (case ho => exact rfl); (case hv => exact rfl); (case hg => exact KC x hx); (case hu => exact Tryz.underlying32); (case hd => rfl); (case hi => kernel_rfl))
    try simp only [Act.put, List.setIfInBounds_toArray, List.set_cons_zero, List.set_cons_succ]
    refine rg_step 1 rfl (by kernel_rfl) (by rfl) (fun K hK => ?_)
    go_simp
    refine (HTX.out _ (HP4.out.below r0) (HC4.out.next r0)).mono ?_
    rintro e u1 ⟨rfl, p1⟩
    replace r0 := r0.trans (p1.mono r0.size)
    have KC := Ext.at_ (M := fun _ => False) (w := u1) (below_at r0 P4 (heap_lt P4)) (fun h => h)
    refine hK.out _ _ (Ext.below_all _ p1) ?_
    clear hK K; try simp only [Act.put, List.setIfInBounds_toArray, List.set_cons_zero, List.set_cons_succ]
    refine rg_step 3 rfl (by kernel_rfl) (by rfl) (fun K hK => ?_)
    go_simp
    refine (own_all _ ⟨c, lf, lo⟩ A n k A2 n2 k2 (HC4.out.next r0)).mono ?_
    rintro e u2 ⟨Va, vn, vk, Va2, vn2, vk2, rfl, _, _, VC, p2⟩
    replace r0 := r0.trans (p2.mono r0.size)
    refine hK.out _ _ (Ext.below_all _ p2) ?_
    clear hK K; try simp only [Act.put, List.setIfInBounds_toArray, List.set_cons_zero, List.set_cons_succ]
    refine rg_step 4 rfl (by kernel_rfl) (by rfl) (fun K hK => ?_)
    go_simp
    refine (HRT.out _ Va vn vk Va2 vn2 vk2 VC).mono ?_
    rintro e u3 ⟨rfl, p3⟩
    replace r0 := r0.trans (p3.mono r0.size)
    refine hK.out _ _ (Ext.below_all _ p3) ?_
    clear hK K; try simp only [Act.put, List.setIfInBounds_toArray, List.set_cons_zero, List.set_cons_succ]
    refine rg_take (v := ?_) 5 rfl (by kernel_rfl) (by kernel_rfl) (by kernel_rfl) (fun _ _ _ h => h) (by rfl) ?_ ?_; rotate_left
    · (intro x hx; go_simp; first | done | with_reducible rfl | (rw [if_pos (by omega)]; try with_reducible rfl) | (rw [if_neg (by omega)]; try with_reducible rfl))
    try simp only [Act.put, List.setIfInBounds_toArray, List.set_cons_zero, List.set_cons_succ]
    refine rg_take (v := ?_) 6 rfl (by kernel_rfl) (by kernel_rfl) (by kernel_rfl) (fun _ _ _ h => h) (by rfl) ?_ ?_; rotate_left
    · (intro x hx; go_simp; first | done | with_reducible rfl | (rw [if_pos (by omega)]; try with_reducible rfl) | (rw [if_neg (by omega)]; try with_reducible rfl))
    try simp only [Act.put, List.setIfInBounds_toArray, List.set_cons_zero, List.set_cons_succ]
    refine rg_done (by kernel_rfl) ?_
    have b5 := HB4.out.trans (r0.mono HB4.out.size)
    go_wp2_with fail
    go_ret
    exact ⟨by first | rfl | simp, b5⟩
theorem confChecks_any (w : World) (hm : mlIs w) (hpw : powIs w) (c : Cf) (lf : List Fx) (lo : List Opn) (A : Option Addr) (n k : Nat) (A2 : Option Addr) (n2 k2 : Nat) (h : CI w lf lo A n k A2 n2 k2) :
    Calls Tryz.prog 5 #[.agg (cfC c (.slice A n k) (.slice A2 n2 k2))] w (TruePost w) := by
  by_cases h1 : 40 < n ∨ 40 < n2
  · exact confChecks_many w hm c A n k A2 n2 k2 h1
  · exact confChecks_few w hm hpw c lf lo A n k A2 n2 k2 ⟨h.rf, h.nf, by omega, h.ro, h.no, by omega, h.wf⟩ (by omega) (by omega)
end Go.Proofs.YtnmdiageigbphaaGreatDoor
