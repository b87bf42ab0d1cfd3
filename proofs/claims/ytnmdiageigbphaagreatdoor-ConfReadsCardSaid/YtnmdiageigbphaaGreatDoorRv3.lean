/-
  The reference's value: a port opened.
-/
import Derived.Test.YtnmdiageigbphaaGreatDoorRv2
namespace Go.Proofs.YtnmdiageigbphaaGreatDoor
open Go.RowKit

def RvO (w : World) (H g : Nat) (c : Cf) (vf : Value) (l : List Opn) (b : Bool) (e : Ending) (w' : World) : Prop :=
  ∃ A n k, e = .returned (.bool b) ∧ RCB w' g c vf (.slice A n k) ∧ RPO w' H A n k l ∧ Ext (fun j => j = g) w w'
set_option maxRecDepth 100000 in
set_option maxHeartbeats 4000000 in
theorem rval_open_no (w : World) (g : Nat) (c : Cf) (vf vo : Value) (P : RCB w g c vf vo) (v : List UInt8) (hl : v.length ≤ 20000) (h2 : (words v).length ≠ 4) :
    Calls Tryz.prog 24 #[.pointer (some ⟨g, 0, none⟩), .string (str nOpen), .string (str v)] w (RvP w g c vf vo false) := by
  have x0 : ((str nOpen).toList == [108, 97, 110]) = false := by rw [toList_str]; rfl
  have x1 : ((str nOpen).toList == [108, 97, 110, 109, 97, 99]) = false := by rw [toList_str]; rfl
  have x2 : ((str nOpen).toList == [119, 97, 110, 109, 97, 99]) = false := by rw [toList_str]; rfl
  have x3 : ((str nOpen).toList == [102, 105, 114, 115, 116]) = false := by rw [toList_str]; rfl
  have x4 : ((str nOpen).toList == [108, 97, 115, 116]) = false := by rw [toList_str]; rfl
  have x5 : ((str nOpen).toList == [100, 110, 115]) = false := by rw [toList_str]; rfl
  have x6 : ((str nOpen).toList == [102, 105, 120, 101, 100]) = false := by rw [toList_str]; rfl
  have x7 : ((str nOpen).toList == [111, 112, 101, 110]) = true := by rw [toList_str]; rfl
  have hgl := heap_lt P
  go_enter Tryz.func24, Tryz.ntmps24
  go_wp2_with fail
  refine (rwords_any w v (by omega)).mono ?_
  rintro e w1 ⟨A, n, cc, rfl, ho, q1⟩
  have P1 := below_at q1 P hgl
  have e1 := Ext.below_all (fun j => j = g) q1
  have hn : (n : Int) ≠ 4 := by have := ho.1; omega
  have hn1 : ((n : Int) == 4) = false := beq_eq_false_iff_ne.2 hn
  clear P q1 hgl ho h2
  go_wp2_with fail
  go_ret
  exact ⟨rfl, P1, e1⟩
set_option maxRecDepth 100000 in
set_option maxHeartbeats 4000000 in
theorem rval_open_no2 (w : World) (g : Nat) (c : Cf) (vf vo : Value) (P : RCB w g c vf vo) (v : List UInt8) (hl : v.length ≤ 20000) (h2 : (words v).length = 4) (hp0 : (words v).getD 0 [] ≠ sUdp ∧ (words v).getD 0 [] ≠ sTcp) :
    Calls Tryz.prog 24 #[.pointer (some ⟨g, 0, none⟩), .string (str nOpen), .string (str v)] w (RvP w g c vf vo false) := by
  have x0 : ((str nOpen).toList == [108, 97, 110]) = false := by rw [toList_str]; rfl
  have x1 : ((str nOpen).toList == [108, 97, 110, 109, 97, 99]) = false := by rw [toList_str]; rfl
  have x2 : ((str nOpen).toList == [119, 97, 110, 109, 97, 99]) = false := by rw [toList_str]; rfl
  have x3 : ((str nOpen).toList == [102, 105, 114, 115, 116]) = false := by rw [toList_str]; rfl
  have x4 : ((str nOpen).toList == [108, 97, 115, 116]) = false := by rw [toList_str]; rfl
  have x5 : ((str nOpen).toList == [100, 110, 115]) = false := by rw [toList_str]; rfl
  have x6 : ((str nOpen).toList == [102, 105, 120, 101, 100]) = false := by rw [toList_str]; rfl
  have x7 : ((str nOpen).toList == [111, 112, 101, 110]) = true := by rw [toList_str]; rfl
  have hwd := rwords_any w v (by omega)
  have hgl := heap_lt P
  obtain ⟨L, hL⟩ : ∃ L, words v = L := ⟨_, rfl⟩
  rw [hL] at hwd h2 hp0
  clear hL
  go_enter Tryz.func24, Tryz.ntmps24
  go_wp2_with fail
  refine hwd.mono ?_
  rintro e w1 ⟨AW, nw, cc, rfl, ho, q1⟩
  have P1 : RCB w1 g c vf vo := below_at q1 P hgl
  have e1 := Ext.below_all (fun j => j = g) q1
  have hn : nw = 4 := by have := ho.1; omega
  subst hn
  obtain ⟨bb, o, rfl, hbl, hc0⟩ := ho.at_ (getD_some [] (show 0 < L.length by omega))
  obtain ⟨p0, hq0⟩ : ∃ p, L.getD 0 [] = p := ⟨_, rfl⟩
  rw [hq0] at hp0
  rw [hq0, Nat.add_zero] at hc0
  have y1 : ((str p0).toList == [117, 100, 112]) = false := by rw [toList_str]; exact beq_eq_false_iff_ne.2 hp0.1
  have y2 : ((str p0).toList == [116, 99, 112]) = false := by rw [toList_str]; exact beq_eq_false_iff_ne.2 hp0.2
  clear hq0 hp0 ho q1 hgl h2 hwd P
  go_wp2_with fail
  go_ret
  exact ⟨rfl, P1, e1⟩
set_option maxRecDepth 100000 in
set_option maxHeartbeats 16000000 in
theorem rval_open_udp (w : World) (g H : Nat) (hH : H ≤ w.heap.size) (c : Cf) (vf : Value) (A : Option Addr) (n k : Nat) (lo : List Opn) (P : RCB w g c vf (.slice A n k)) (F : RPO w H A n k lo) (hlo : lo.length ≤ 100000) (v : List UInt8) (hl : v.length ≤ 20000) (h2 : (words v).length = 4) (hp0 : (words v).getD 0 [] = sUdp) :
    Calls Tryz.prog 24 #[.pointer (some ⟨g, 0, none⟩), .string (str nOpen), .string (str v)] w
      (RvO w H g c vf (lo ++ [⟨17, refG ((words v).getD 1 []) mostN, (parseV ((words v).getD 2 [])).1, refG ((words v).getD 3 []) mostN⟩])
        (decide ((parseV ((words v).getD 2 [])).2 = 0) && decide (0 ≤ refG ((words v).getD 1 []) mostN) && decide (0 ≤ refG ((words v).getD 3 []) mostN))) := by
  have x0 : ((str nOpen).toList == [108, 97, 110]) = false := by rw [toList_str]; rfl
  have x1 : ((str nOpen).toList == [108, 97, 110, 109, 97, 99]) = false := by rw [toList_str]; rfl
  have x2 : ((str nOpen).toList == [119, 97, 110, 109, 97, 99]) = false := by rw [toList_str]; rfl
  have x3 : ((str nOpen).toList == [102, 105, 114, 115, 116]) = false := by rw [toList_str]; rfl
  have x4 : ((str nOpen).toList == [108, 97, 115, 116]) = false := by rw [toList_str]; rfl
  have x5 : ((str nOpen).toList == [100, 110, 115]) = false := by rw [toList_str]; rfl
  have x6 : ((str nOpen).toList == [102, 105, 120, 101, 100]) = false := by rw [toList_str]; rfl
  have x7 : ((str nOpen).toList == [111, 112, 101, 110]) = true := by rw [toList_str]; rfl
  have hwd := rwords_any w v (by omega)
  have hlen : ∀ i, i < 4 → ((words v).getD i []).length ≤ 20000 := fun i hi => Nat.le_trans (words_mem v _ (List.mem_iff_getElem?.2 ⟨i, getD_some [] (by omega)⟩)) hl
  obtain ⟨L, hL⟩ : ∃ L, words v = L := ⟨_, rfl⟩
  rw [hL] at hwd hlen h2 hp0 ⊢
  obtain ⟨po, hpo, hp1⟩ := rnum_k (L.getD 1 []) (hlen 1 (by decide))
  obtain ⟨x, b, hx, hb, hp2⟩ := rparse_xb (L.getD 2 []) (hlen 2 (by decide))
  obtain ⟨tp, htp, hp3⟩ := rnum_k (L.getD 3 []) (hlen 3 (by decide))
  rw [← hx, ← hb, ← hpo, ← htp]
  have hgl := heap_lt P
  clear hx hb hpo htp hL hlen
  go_enter Tryz.func24, Tryz.ntmps24
  go_wp2_with fail
  refine hwd.mono ?_
  rintro e w1 ⟨AW, nw, cc, rfl, ho, q1⟩
  have P1 : RCB w1 g c vf (.slice A n k) := below_at q1 P hgl
  have e1 := Ext.below_all (fun j => j = g) q1
  have hn : nw = 4 := by have := ho.1; omega
  subst hn
  obtain ⟨bb, o, rfl, hbl, hc0⟩ := ho.at_ (getD_some [] (show 0 < L.length by omega))
  obtain ⟨_, _, ee, _, hc1⟩ := ho.at_ (getD_some [] (show 1 < L.length by omega))
  obtain ⟨rfl, rfl⟩ : bb = _ ∧ o = _ := by injection ee with ee; injection ee with ee e2; exact ⟨ee, e2⟩
  obtain ⟨_, _, ee, _, hc2⟩ := ho.at_ (getD_some [] (show 2 < L.length by omega))
  obtain ⟨rfl, rfl⟩ : bb = _ ∧ o = _ := by injection ee with ee; injection ee with ee e2; exact ⟨ee, e2⟩
  obtain ⟨_, _, ee, _, hc3⟩ := ho.at_ (getD_some [] (show 3 < L.length by omega))
  obtain ⟨rfl, rfl⟩ : bb = _ ∧ o = _ := by injection ee with ee; injection ee with ee e2; exact ⟨ee, e2⟩
  obtain ⟨p1, hq1⟩ : ∃ p, L.getD 1 [] = p := ⟨_, rfl⟩
  obtain ⟨p2, hq2⟩ : ∃ p, L.getD 2 [] = p := ⟨_, rfl⟩
  obtain ⟨p3, hq3⟩ : ∃ p, L.getD 3 [] = p := ⟨_, rfl⟩
  rw [hp0, Nat.add_zero] at hc0
  rw [hq1] at hc1 hp1
  rw [hq2] at hc2 hp2
  rw [hq3] at hc3 hp3
  have F1 := F.below q1
  have HFO := Lib.hid (show ∀ j, (Value.slice A n k).ownBlock = some j → j < w.heap.size from fun j hj => (F.lt j hj).2)
  have HSZ := Lib.hid q1.size
  have hH1 : H ≤ w1.heap.size := by have := q1.size; omega
  have HC2 := Lib.hid (⟨hc0, hc2⟩ : _ ∧ _)
  have HC3 := Lib.hid (⟨hc1, hc3⟩ : _ ∧ _)
  have y1 : ((str sUdp).toList == [117, 100, 112]) = true := by rw [toList_str]; rfl
  have y2 : ((str sUdp).toList == [116, 99, 112]) = false := by rw [toList_str]; rfl
  clear P F q1 hwd hgl ho h2 hp0 hq1 hq2 hq3 ee hc1 hc2 hc3
  go_upto_region 42 with fail
  clear hc0
  go_cut [21] (fun v wx => ∃ gx, v = .pointer (some ⟨gx, 0, none⟩) ∧ w1.heap.size ≤ gx ∧ wx.heap[gx]? = some (.cells (opC ⟨17, po, ⟨0, 0, 0, 0⟩, tp⟩) 72 (0, 0)) ∧ Below w1.heap.size w1 wx)
  case first =>
   as_aux_lemma =>
   have Z0 : (w1.drew.alloc (.cells (opC ⟨0, 0, ⟨0, 0, 0, 0⟩, 0⟩) 72)).heap[w1.heap.size]? = some (.cells (opC ⟨0, 0, ⟨0, 0, 0, 0⟩, 0⟩) 72 (0, 0)) := heap_alloc_new w1.drew _
   have bz : Below w1.heap.size w1 (w1.drew.alloc (.cells (opC ⟨0, 0, ⟨0, 0, 0, 0⟩, 0⟩) 72)) := (Below.refl _ w1).drew.alloc (Nat.le_refl _) _
   have k1 := Ext.cell (w := w1.drew) (M := fun j => w1.heap.size ≤ j) HC3.out.1 (by omega)
   have k3 := Ext.cell (w := w1.drew) (M := fun j => w1.heap.size ≤ j) HC3.out.2 (by omega)
   refine rg_begin (fun j => w1.heap.size ≤ j) (by kernel_rfl) ?_
   refine rg_take (v := ?_) 0 rfl (by kernel_rfl) (by kernel_rfl) (by kernel_rfl) (fun _ _ _ h => h) (by rfl) ?_ ?_; rotate_left
   · (intro x hx; go_simp; first | done | with_reducible rfl | (rw [if_pos (by omega)]; try with_reducible rfl) | (rw [if_neg (by omega)]; try with_reducible rfl))
   try simp only [Act.put, List.setIfInBounds_toArray, List.set_cons_zero, List.set_cons_succ]
   refine rg_take (v := ?_) 1 rfl (by kernel_rfl) (by kernel_rfl) (by kernel_rfl) (fun _ _ _ h => h) (by rfl) ?_ ?_; rotate_left
   · (intro x hx; go_simp; first | done | with_reducible rfl | (rw [if_pos (by omega)]; try with_reducible rfl) | (rw [if_neg (by omega)]; try with_reducible rfl))
   try simp only [Act.put, List.setIfInBounds_toArray, List.set_cons_zero, List.set_cons_succ]
   refine rg_take (v := ?_) 2 rfl (by kernel_rfl) (by kernel_rfl) (by kernel_rfl) (fun _ _ _ h => h) (by rfl) ?_ ?_; rotate_left
   · (intro x hx; go_simp; first | done | with_reducible rfl | (rw [if_pos (by omega)]; try with_reducible rfl) | (rw [if_neg (by omega)]; try with_reducible rfl))
   try simp only [Act.put, List.setIfInBounds_toArray, List.set_cons_zero, List.set_cons_succ]
   refine rg_take (v := ?_) 4 rfl (by kernel_rfl) (by kernel_rfl) (by kernel_rfl) (fun _ _ _ h => h) (by rfl) ?_ ?_; rotate_left
   · (intro x hx; go_simp; first | done | with_reducible rfl | (rw [if_pos (by omega)]; try with_reducible rfl) | (rw [if_neg (by omega)]; try with_reducible rfl))
   try simp only [Act.put, List.setIfInBounds_toArray, List.set_cons_zero, List.set_cons_succ]
   refine rg_take (v := ?_) 5 rfl (by kernel_rfl) (by kernel_rfl) (by kernel_rfl) (fun _ _ _ h => h) (by rfl) ?_ ?_; rotate_left
   · (intro x hx; go_simp; first | done | with_reducible rfl | (rw [if_pos (by omega)]; try with_reducible rfl) | (rw [if_neg (by omega)]; try with_reducible rfl))
   try simp only [Act.put, List.setIfInBounds_toArray, List.set_cons_zero, List.set_cons_succ]
   refine rg_take (v := ?_) 6 rfl (by kernel_rfl) (by kernel_rfl) (by kernel_rfl) (fun _ _ _ h => h) (by rfl) ?_ ?_; rotate_left
   · (intro x hx; go_simp; first | done | with_reducible rfl | (rw [if_pos (by omega)]; try with_reducible rfl) | (rw [if_neg (by omega)]; try with_reducible rfl))
   try simp only [Act.put, List.setIfInBounds_toArray, List.set_cons_zero, List.set_cons_succ]
   refine rg_two 3 9 rfl rfl (by kernel_rfl) (by rfl) (by rfl) (fun K hK => ?_) (fun K hK => ?_)
   · go_simp
     refine (hp1 _).mono ?_
     rintro e wz ⟨rfl, rfl⟩
     refine hK.out _ _ (Ext.refl _ _) ?_
     clear hK K; try simp only [Act.put, List.setIfInBounds_toArray, List.set_cons_zero, List.set_cons_succ]
     refine rg_two 7 9 rfl rfl (by kernel_rfl) (by rfl) (by rfl) (fun K hK => ?_) (fun K hK => ?_)
     · go_simp
       refine (hp3 _).mono ?_
       rintro e wz ⟨rfl, rfl⟩
       refine hK.out _ _ (Ext.refl _ _) ?_
       clear hK K; try simp only [Act.put, List.setIfInBounds_toArray, List.set_cons_zero, List.set_cons_succ]
       refine rg_take (v := ?_) 8 rfl (by kernel_rfl) (by kernel_rfl) (by kernel_rfl) (fun _ _ _ h => h) (by rfl) ?_ ?_; rotate_left
       · (intro x hx; go_simp; first | done | with_reducible rfl | (rw [if_pos (by omega)]; try with_reducible rfl) | (rw [if_neg (by omega)]; try with_reducible rfl))
       try simp only [Act.put, List.setIfInBounds_toArray, List.set_cons_zero, List.set_cons_succ]
       refine rg_step 9 rfl (by kernel_rfl) (by rfl) (fun K hK => ?_)
       go_simp
       refine hK.out _ _ (Ext.below_all _ ((Below.refl _ _).alloc (Nat.le_refl _) _)) ?_
       clear hK K; try simp only [Act.put, List.setIfInBounds_toArray, List.set_cons_zero, List.set_cons_succ]
       refine rg_step 10 rfl (by kernel_rfl) (by rfl) (fun K hK => ?_)
       --RAW
       apply wp_store_part 72
       case ho => exact rfl
       case hx => exact rfl
       case hy => exact rfl
       case hg => exact Z0
       case hle => simp
       case hi => kernel_rfl
       case h1 => kernel_rfl
       intro w2 g2 X2
       refine hK.out _ _ (Ext.of_grown g2 (fun j h => by injection h with h; rw [← h]; exact Nat.le_refl _)) ?_
       clear hK K
       refine rg_done (by kernel_rfl) ?_
       --TAIL
       go_wp2_with fail
       go_meet
       exact ⟨w1.heap.size, rfl, Nat.le_refl _, X2, below_grown bz g2 bz.size (Nat.le_refl _)⟩
     · go_simp
       refine hK.out _ _ (Ext.below_all _ ((Below.refl _ _).alloc (Nat.le_refl _) _)) ?_
       clear hK K; try simp only [Act.put, List.setIfInBounds_toArray, List.set_cons_zero, List.set_cons_succ]
       refine rg_step 7 rfl (by kernel_rfl) (by rfl) (fun K hK => ?_)
       go_simp
       refine (hp3 _).mono ?_
       rintro e wz ⟨rfl, rfl⟩
       refine hK.out _ _ (Ext.refl _ _) ?_
       clear hK K; try simp only [Act.put, List.setIfInBounds_toArray, List.set_cons_zero, List.set_cons_succ]
       refine rg_take (v := ?_) 8 rfl (by kernel_rfl) (by kernel_rfl) (by kernel_rfl) (fun _ _ _ h => h) (by rfl) ?_ ?_; rotate_left
       · (intro x hx; go_simp; first | done | with_reducible rfl | (rw [if_pos (by omega)]; try with_reducible rfl) | (rw [if_neg (by omega)]; try with_reducible rfl))
       try simp only [Act.put, List.setIfInBounds_toArray, List.set_cons_zero, List.set_cons_succ]
       refine rg_step 10 rfl (by kernel_rfl) (by rfl) (fun K hK => ?_)
       --RAW
       apply wp_store_part 72
       case ho => exact rfl
       case hx => exact rfl
       case hy => exact rfl
       case hg => exact Z0
       case hle => simp
       case hi => kernel_rfl
       case h1 => kernel_rfl
       intro w2 g2 X2
       refine hK.out _ _ (Ext.of_grown g2 (fun j h => by injection h with h; rw [← h]; exact Nat.le_refl _)) ?_
       clear hK K
       refine rg_done (by kernel_rfl) ?_
       --TAIL
       go_wp2_with fail
       go_meet
       exact ⟨w1.heap.size, rfl, Nat.le_refl _, X2, below_grown bz g2 bz.size (Nat.le_refl _)⟩
   · go_simp
     refine hK.out _ _ (Ext.below_all _ ((Below.refl _ _).alloc (Nat.le_refl _) _)) ?_
     clear hK K; try simp only [Act.put, List.setIfInBounds_toArray, List.set_cons_zero, List.set_cons_succ]
     refine rg_step 3 rfl (by kernel_rfl) (by rfl) (fun K hK => ?_)
     go_simp
     refine (hp1 _).mono ?_
     rintro e wz ⟨rfl, rfl⟩
     refine hK.out _ _ (Ext.refl _ _) ?_
     clear hK K; try simp only [Act.put, List.setIfInBounds_toArray, List.set_cons_zero, List.set_cons_succ]
     refine rg_step 7 rfl (by kernel_rfl) (by rfl) (fun K hK => ?_)
     go_simp
     refine (hp3 _).mono ?_
     rintro e wz ⟨rfl, rfl⟩
     refine hK.out _ _ (Ext.refl _ _) ?_
     clear hK K; try simp only [Act.put, List.setIfInBounds_toArray, List.set_cons_zero, List.set_cons_succ]
     refine rg_take (v := ?_) 8 rfl (by kernel_rfl) (by kernel_rfl) (by kernel_rfl) (fun _ _ _ h => h) (by rfl) ?_ ?_; rotate_left
     · (intro x hx; go_simp; first | done | with_reducible rfl | (rw [if_pos (by omega)]; try with_reducible rfl) | (rw [if_neg (by omega)]; try with_reducible rfl))
     try simp only [Act.put, List.setIfInBounds_toArray, List.set_cons_zero, List.set_cons_succ]
     refine rg_step 10 rfl (by kernel_rfl) (by rfl) (fun K hK => ?_)
     --RAW
     apply wp_store_part 72
     case ho => exact rfl
     case hx => exact rfl
     case hy => exact rfl
     case hg => exact Z0
     case hle => simp
     case hi => kernel_rfl
     case h1 => kernel_rfl
     intro w2 g2 X2
     refine hK.out _ _ (Ext.of_grown g2 (fun j h => by injection h with h; rw [← h]; exact Nat.le_refl _)) ?_
     clear hK K
     refine rg_done (by kernel_rfl) ?_
     --TAIL
     go_wp2_with fail
     go_meet
     exact ⟨w1.heap.size, rfl, Nat.le_refl _, X2, below_grown bz g2 bz.size (Nat.le_refl _)⟩
  case rest =>
   obtain ⟨gx, rfl, hgx, X2, q2⟩ := hcut
   rename World => w2
   have P2 : RCB w2 g c vf (.slice A n k) := below_at q2 P1 (heap_lt P1)
   have F2 := F1.below q2
   have e2 := (e1.trans (Ext.below_all _ q2)).more (M' := fun j => j = g ∨ w.heap.size ≤ j) (fun _ h => .inl h)
   have hgw : w.heap.size ≤ gx := Nat.le_trans HSZ.out hgx
   have hfx : (Value.slice A n k).ownBlock ≠ some gx := fun e => by have := HFO.out _ e; omega
   have hH2 : H ≤ w2.heap.size := by have := q2.size; omega
   have c0 : w2.cell? ⟨bb, o, none⟩ = some (.string (str sUdp)) := (World.cell?_of_block (w := w1) (a := ⟨bb, o, none⟩) (q2.block bb hbl)).trans HC2.out.1
   have c2 : w2.cell? ⟨bb, o + 2, none⟩ = some (.string (str p2)) := (World.cell?_of_block (w := w1) (a := ⟨bb, o + 2, none⟩) (q2.block bb hbl)).trans HC2.out.2
   have hgx2 : gx ≠ g := by have := heap_lt P1; omega
   have hbx : bb ≠ gx := by omega
   have hbl2 : bb < w2.heap.size := by have := q2.size; omega
   clear P1 F1 q2 e1 HC2 HC3 hbl hH1 hp1 hp3 hgx
   go_upto_region 45 with fail
   have X4 := X2
   have P4 := P2
   have F4 := F2
   have e4 := e2
   have hH4 := hH2
   have c4 := c2

   clear X2 P2 F2 e2 c2 c0 hH2 hbl2 hbx
   go_wp2_with fail
   refine (hp2 w2).mono ?_
   rintro e w5 ⟨rfl, q5⟩
   have P5 : RCB w5 g c vf (.slice A n k) := below_at q5 P4 (heap_lt P4)
   have F5 := F4.below q5
   have X5 := below_at q5 X4 (heap_lt X4)
   have e5 := e4.trans (Ext.below_all _ q5)
   have hH5 : H ≤ w5.heap.size := by have := q5.size; omega
   clear P4 F4 X4 e4 hH4 q5 c4 hp2
   go_upto_region 46 with ((with_reducible apply at_store_new 24); (case hx => exact rfl); (case hy => exact rfl); (case hg => first | rfl | simp); (case hi => kernel_rfl); (case hold => rfl); (case h1 => kernel_rfl))
   have q6 : Below w5.heap.size w5 (w5.alloc (.cells (adC x) 24)) := (Below.refl _ w5).alloc (Nat.le_refl _) _
   have P6 : RCB (w5.alloc (.cells (adC x) 24)) g c vf (.slice A n k) := below_at q6 P5 (heap_lt P5)
   have F6 := F5.below q6
   have X6 := below_at q6 X5 (heap_lt X5)
   have A6 := heap_alloc_new w5 (.cells (adC x) 24)
   have e6 := e5.trans (Ext.below_all _ q6)
   have hH6 : H ≤ (w5.alloc (.cells (adC x) 24)).heap.size := by have := q6.size; omega
   generalize w5.alloc (.cells (adC x) 24) = w6 at P6 F6 X6 A6 e6 hH6 ⊢
   clear P5 F5 X5 e5 hH5 q6
   go_upto_region 47 with (first | ((with_reducible apply at_load_row 24); (case hx => exact rfl); (case hg => exact A6); (case hu => exact Tryz.underlying24); (case hd => rfl); (case hi => kernel_rfl)) | ((with_reducible apply at_store_part 24); (case hx => exact rfl); (case hy => exact rfl); (case hg => exact X6); (case hle => simp); (case hi => kernel_rfl); (case h1 => kernel_rfl); (intro w7 g7 X7; replace X7 := Lib.hid X7)))
   dsimp only [Act.put]
   have X8 : w7.heap[gx]? = some (.cells (opC ⟨17, po, x, tp⟩) 72 (0, 0)) := X7.out
   have P8 : RCB w7 g c vf (.slice A n k) := grown_at g7 P6 (Ne.symm hgx2)
   have F8 := F6.kept g7 (.inr hfx)
   have e8 := e6.trans (Ext.of_grown (M := fun j => j = g ∨ w.heap.size ≤ j) g7 (fun j h => by injection h with h; omega))
   have hH8 : H ≤ w7.heap.size := by have := g7.size; omega
   obtain ⟨B, hB⟩ : ∃ B, w7.heap.size = B := ⟨_, rfl⟩
   have hgxB : gx < B := by have := heap_lt X8; omega
   have hgB : g < B := by have := heap_lt P8; omega
   have HWB := Lib.hid (show w.heap.size ≤ B by have := e8.size; omega)
   have HHB := Lib.hid (show H ≤ B by omega)
   have HX8 := Lib.hid X8
   have HE8 := Lib.hid e8
   clear P6 F6 X6 A6 e6 hH6 X7 g7 hfx hgw e8 hH8
   have P : RCB w7.drew g c vf (.slice A n k) := P8
   have F : RPO w7.drew H A n k lo := F8.below (Below.refl _ _).drew
   have KX := Ext.at_ (w := w7.drew) (M := fun j => j = g ∨ B ≤ j) HX8.out (by omega)
   have hB2 : B ≤ w7.drew.heap.size := by rw [← hB]; exact Nat.le_refl _
   refine rg_begin (fun j => j = g ∨ B ≤ j) (by kernel_rfl) ?_
   obtain ⟨wn, hwn⟩ : ∃ y, y = w7.drew := ⟨_, rfl⟩
   rw [← hwn] at P F KX hB2 ⊢
   have e6 : Ext (fun j => j = g ∨ B ≤ j) w7 wn := by rw [hwn]; exact (Ext.refl _ _).drew
   clear hwn P8 F8 hB X8
   have kA := (cells_of P).1 39
   refine rg_take (v := ?_) 0 rfl (by kernel_rfl) (by kernel_rfl) (by kernel_rfl) (fun _ _ _ h => h) (by rfl) ?_ ?_; rotate_left
   · (intro x hx; go_simp; first | done | with_reducible rfl | (rw [if_pos (by omega)]; try with_reducible rfl) | (rw [if_neg (by omega)]; try with_reducible rfl))
   try simp only [Act.put, List.setIfInBounds_toArray, List.set_cons_zero, List.set_cons_succ]
   refine rg_take (v := ?_) 2 rfl (by kernel_rfl) (by kernel_rfl) (by kernel_rfl) (fun _ _ _ h => h) (by rfl) ?_ ?_; rotate_left
   · (intro x hx; go_simp; first | done | with_reducible rfl | (rw [if_pos (by omega)]; try with_reducible rfl) | (rw [if_neg (by omega)]; try with_reducible rfl))
   try simp only [Act.put, List.setIfInBounds_toArray, List.set_cons_zero, List.set_cons_succ]
   refine rg_take (v := ?_) 3 rfl (by kernel_rfl) (by kernel_rfl) (by kernel_rfl) (fun _ _ _ h => h) (by rfl) ?_ ?_; rotate_left
   · (intro x hx; go_simp; first | done | with_reducible rfl | (rw [if_pos (by omega)]; try with_reducible rfl) | (rw [if_neg (by omega)]; try with_reducible rfl))
   try simp only [Act.put, List.setIfInBounds_toArray, List.set_cons_zero, List.set_cons_succ]
   refine rg_take (v := ?_) 4 rfl (by kernel_rfl) (by kernel_rfl) (by kernel_rfl) (fun _ _ _ h => h) (by rfl) ?_ ?_; rotate_left
   · (intro x hx; go_simp; first | done | with_reducible rfl | (rw [if_pos (by omega)]; try with_reducible rfl) | (rw [if_neg (by omega)]; try with_reducible rfl))
   try simp only [Act.put, List.setIfInBounds_toArray, List.set_cons_zero, List.set_cons_succ]
   refine rg_take (v := .agg (opC ⟨17, po, x, tp⟩)) 7 rfl (by kernel_rfl) (by kernel_rfl) (by kernel_rfl) (fun _ _ _ h => h) (by rfl) ?_ ?_
   · (intro x hx; apply run_load_big; (case ho => exact rfl); (case hv => exact rfl); (case hg => exact KX x hx); (case hu => exact Tryz.underlying72); (case hd => rfl); (case hi => kernel_rfl))
   try simp only [Act.put, List.setIfInBounds_toArray, List.set_cons_zero, List.set_cons_succ]
   refine rg_three 1 5 8 rfl rfl rfl (by kernel_rfl) (by rfl) (by rfl) (by rfl) (fun K hK => ?_) (fun K hK => ?_) (fun K hK => ?_)
   · go_simp
     have q : Below wn.heap.size wn (wn.alloc (.cells #[] 72)) := (Below.refl _ _).alloc (Nat.le_refl _) _
     have E : TO (wn.alloc (.cells #[] 72)) B 72 7 (some ⟨wn.heap.size, 0, none⟩) 0 0 0 [] := ⟨rfl, World.ownsRow_lit wn #[] 0 hB2 (by unfold maxLen; omega) rfl⟩
     replace P := below_at q P (heap_lt P)
     replace F := F.below q
     replace e6 := e6.trans (Ext.below_all _ q)
     replace hB2 := Nat.le_trans hB2 q.size
     refine hK.out _ _ (Ext.below_all _ q) ?_
     obtain ⟨g0, hg0⟩ : ∃ y, wn.heap.size = y := ⟨_, rfl⟩
     try have hRE := old_ne (n := 0) (c := 0) hg0 R
     try replace R := below_at q R (heap_lt R)
     rw [hg0] at E ⊢
     clear q hg0 kA
     first | (generalize wn.alloc (.cells #[] 72) = wn at P F E R e6 hB2 ⊢) | (generalize wn.alloc (.cells #[] 72) = wn at P F E e6 hB2 ⊢)
     have kA := (cells_of P).1 39
     clear hK K; try simp only [Act.put, List.setIfInBounds_toArray, List.set_cons_zero, List.set_cons_succ]
     refine rg_two 5 8 rfl rfl (by kernel_rfl) (by rfl) (by rfl) (fun K hK => ?_) (fun K hK => ?_)
     · go_simp
       refine hK.out _ _ (Ext.refl _ _) ?_
       clear hK K; try simp only [Act.put, List.setIfInBounds_toArray, List.set_cons_zero, List.set_cons_succ]
       refine rg_two 6 8 rfl rfl (by kernel_rfl) (by rfl) (by rfl) (fun K hK => ?_) (fun K hK => ?_)
       · refine wp_appN _ _ 38 72 7 32 _ Tryz.underlying38 infoROp rfl (by omega) (by omega) rfl B _ _ _ _ _ rfl E H _ _ _ _ _ rfl F (opL_one lo) (by omega) hB2 ?_
         intro A2 k2 wn E2 b3 g3
         replace P := (b3.block g hgB).trans P
         have x3 := Ext.of_grown (M := fun j => j = g ∨ B ≤ j) g3 (fun j hj => .inr (E.lt j hj).1)
         try replace R := (g3.block _ (heap_lt R) hRE).trans R
         replace e6 := e6.trans x3
         replace hB2 := Nat.le_trans hB2 b3.size
         replace E := E2
         refine hK.out _ _ x3 ?_
         obtain ⟨n', hn'⟩ : ∃ y, 0 + n = y := ⟨_, rfl⟩
         rw [hn'] at E ⊢
         clear hn'
         simp only [Nat.zero_add, List.nil_append] at E
         clear x3 g3 b3 E2 kA F
         clear hK K; try simp only [Act.put, List.setIfInBounds_toArray, List.set_cons_zero, List.set_cons_succ]
         refine rg_step 8 rfl (by kernel_rfl) (by rfl) (fun K hK => ?_)
         go_simp
         have q : Below wn.heap.size wn (wn.alloc (.cells (opC ⟨17, po, x, tp⟩) 72)) := (Below.refl _ _).alloc (Nat.le_refl _) _
         have R := heap_alloc_new wn (.cells (opC ⟨17, po, x, tp⟩) 72)
         replace P := below_at q P (heap_lt P)
         try replace F := F.below q
         replace e6 := e6.trans (Ext.below_all _ q)
         replace hB2 := Nat.le_trans hB2 q.size
         refine hK.out _ _ (Ext.below_all _ q) ?_
         obtain ⟨g1, hg1⟩ : ∃ y, wn.heap.size = y := ⟨_, rfl⟩
         try have hRE := E.new (Nat.le_of_eq hg1)
         try replace E := E.below q
         rw [hg1] at R ⊢
         clear q hg1
         try clear kA
         first | (generalize wn.alloc (.cells (opC ⟨17, po, x, tp⟩) 72) = wn at P F E R e6 hB2 ⊢) | (generalize wn.alloc (.cells (opC ⟨17, po, x, tp⟩) 72) = wn at P F R e6 hB2 ⊢) | (generalize wn.alloc (.cells (opC ⟨17, po, x, tp⟩) 72) = wn at P E R e6 hB2 ⊢)
         have kA := (cells_of P).1 39
         clear hK K; try simp only [Act.put, List.setIfInBounds_toArray, List.set_cons_zero, List.set_cons_succ]
         refine rg_step 9 rfl (by kernel_rfl) (by rfl) (fun K hK => ?_)
         refine wp_appT _ _ 38 72 7 32 _ Tryz.underlying38 infoROp rfl (by omega) (by omega) rfl B _ _ _ _ _ rfl E _ _ rfl (opC ⟨17, po, x, tp⟩) rfl R (by simp [Value.oneCell']) (by omega) hB2 ?_
         intro A3 k3 wn E3 b3 g3
         replace P := (b3.block g hgB).trans P
         have x3 := Ext.of_grown (M := fun j => j = g ∨ B ≤ j) g3 (fun j hj => .inr (E.lt j hj).1)
         replace e6 := e6.trans x3
         replace E := E3
         refine hK.out _ _ x3 ?_
         clear x3 g3 b3 E3
         try clear kA
         clear hK K; try simp only [Act.put, List.setIfInBounds_toArray, List.set_cons_zero, List.set_cons_succ]
         refine rg_take (v := ?_) 10 rfl (by kernel_rfl) (by kernel_rfl) (by kernel_rfl) (fun _ _ _ h => h) (by rfl) ?_ ?_; rotate_left
         · (intro x hx; go_simp; first | done | with_reducible rfl | (rw [if_pos (by omega)]; try with_reducible rfl) | (rw [if_neg (by omega)]; try with_reducible rfl))
         try simp only [Act.put, List.setIfInBounds_toArray, List.set_cons_zero, List.set_cons_succ]
         refine rg_take (v := ?_) 11 rfl (by kernel_rfl) (by kernel_rfl) (by kernel_rfl) (fun _ _ _ h => h) (by rfl) ?_ ?_; rotate_left
         · (intro x hx; go_simp; first | done | with_reducible rfl | (rw [if_pos (by omega)]; try with_reducible rfl) | (rw [if_neg (by omega)]; try with_reducible rfl))
         try simp only [Act.put, List.setIfInBounds_toArray, List.set_cons_zero, List.set_cons_succ]
         refine rg_step 12 rfl (by kernel_rfl) (by rfl) (fun K hK => ?_)
         --RAW
         apply wp_store_one 38
         case ho => exact rfl
         case hx => exact rfl
         case hy => exact rfl
         case hg => exact P
         case hle => simp
         case hv => rfl
         case hi => kernel_rfl
         case h1 => rfl
         intro wn g5 P5
         have x5 := Ext.of_grown (M := fun j => j = g ∨ B ≤ j) g5 (fun j h => by injection h with h; exact .inl h.symm)
         replace e6 := e6.trans x5
         replace E := E.kept g5 (E.ne P (by decide))
         refine hK.out _ _ x5 ?_
         clear hK K
         refine rg_done (by kernel_rfl) ?_
         --TAIL
         replace E := rpo_end HHB.out E
         have X9 := (e6.block gx (heap_lt HX8.out) (by omega)).trans HX8.out
         have x9 := (cells_of X9).1
         have e10 : Ext (fun j => j = g) w wn := (HE8.out.trans (e6.more (M' := fun j => j = g ∨ w.heap.size ≤ j) (fun j h => h.imp id (Nat.le_trans HWB.out)))).old (Nat.le_refl _)
         clear P g5 x5 hB2 KX X9 e6
         rcases b with _ | _
         · go_wp2_with fail
           go_ret
           exact ⟨A3, _, k3, rfl, P5, E, e10⟩
         · rcases d1 : decide (0 ≤ po) with _ | _
           all_goals
             have HD1 := Lib.hid d1
             go_wp2_with fail
             go_ret
             exact ⟨A3, _, k3, by first | rfl | (rw [HD1.out]; rfl), P5, E, e10⟩
       · go_simp
         have q : Below wn.heap.size wn (wn.alloc (.cells (opC ⟨17, po, x, tp⟩) 72)) := (Below.refl _ _).alloc (Nat.le_refl _) _
         have R := heap_alloc_new wn (.cells (opC ⟨17, po, x, tp⟩) 72)
         replace P := below_at q P (heap_lt P)
         try replace F := F.below q
         replace e6 := e6.trans (Ext.below_all _ q)
         replace hB2 := Nat.le_trans hB2 q.size
         refine hK.out _ _ (Ext.below_all _ q) ?_
         obtain ⟨g1, hg1⟩ : ∃ y, wn.heap.size = y := ⟨_, rfl⟩
         try have hRE := E.new (Nat.le_of_eq hg1)
         try replace E := E.below q
         rw [hg1] at R ⊢
         clear q hg1
         try clear kA
         first | (generalize wn.alloc (.cells (opC ⟨17, po, x, tp⟩) 72) = wn at P F E R e6 hB2 ⊢) | (generalize wn.alloc (.cells (opC ⟨17, po, x, tp⟩) 72) = wn at P F R e6 hB2 ⊢) | (generalize wn.alloc (.cells (opC ⟨17, po, x, tp⟩) 72) = wn at P E R e6 hB2 ⊢)
         have kA := (cells_of P).1 39
         clear hK K; try simp only [Act.put, List.setIfInBounds_toArray, List.set_cons_zero, List.set_cons_succ]
         refine rg_step 6 rfl (by kernel_rfl) (by rfl) (fun K hK => ?_)
         refine wp_appN _ _ 38 72 7 32 _ Tryz.underlying38 infoROp rfl (by omega) (by omega) rfl B _ _ _ _ _ rfl E H _ _ _ _ _ rfl F (opL_one lo) (by omega) hB2 ?_
         intro A2 k2 wn E2 b3 g3
         replace P := (b3.block g hgB).trans P
         have x3 := Ext.of_grown (M := fun j => j = g ∨ B ≤ j) g3 (fun j hj => .inr (E.lt j hj).1)
         try replace R := (g3.block _ (heap_lt R) hRE).trans R
         replace e6 := e6.trans x3
         replace hB2 := Nat.le_trans hB2 b3.size
         replace E := E2
         refine hK.out _ _ x3 ?_
         obtain ⟨n', hn'⟩ : ∃ y, 0 + n = y := ⟨_, rfl⟩
         rw [hn'] at E ⊢
         clear hn'
         simp only [Nat.zero_add, List.nil_append] at E
         clear x3 g3 b3 E2 kA F
         clear hK K; try simp only [Act.put, List.setIfInBounds_toArray, List.set_cons_zero, List.set_cons_succ]
         refine rg_step 9 rfl (by kernel_rfl) (by rfl) (fun K hK => ?_)
         refine wp_appT _ _ 38 72 7 32 _ Tryz.underlying38 infoROp rfl (by omega) (by omega) rfl B _ _ _ _ _ rfl E _ _ rfl (opC ⟨17, po, x, tp⟩) rfl R (by simp [Value.oneCell']) (by omega) hB2 ?_
         intro A3 k3 wn E3 b3 g3
         replace P := (b3.block g hgB).trans P
         have x3 := Ext.of_grown (M := fun j => j = g ∨ B ≤ j) g3 (fun j hj => .inr (E.lt j hj).1)
         replace e6 := e6.trans x3
         replace E := E3
         refine hK.out _ _ x3 ?_
         clear x3 g3 b3 E3
         try clear kA
         clear hK K; try simp only [Act.put, List.setIfInBounds_toArray, List.set_cons_zero, List.set_cons_succ]
         refine rg_take (v := ?_) 10 rfl (by kernel_rfl) (by kernel_rfl) (by kernel_rfl) (fun _ _ _ h => h) (by rfl) ?_ ?_; rotate_left
         · (intro x hx; go_simp; first | done | with_reducible rfl | (rw [if_pos (by omega)]; try with_reducible rfl) | (rw [if_neg (by omega)]; try with_reducible rfl))
         try simp only [Act.put, List.setIfInBounds_toArray, List.set_cons_zero, List.set_cons_succ]
         refine rg_take (v := ?_) 11 rfl (by kernel_rfl) (by kernel_rfl) (by kernel_rfl) (fun _ _ _ h => h) (by rfl) ?_ ?_; rotate_left
         · (intro x hx; go_simp; first | done | with_reducible rfl | (rw [if_pos (by omega)]; try with_reducible rfl) | (rw [if_neg (by omega)]; try with_reducible rfl))
         try simp only [Act.put, List.setIfInBounds_toArray, List.set_cons_zero, List.set_cons_succ]
         refine rg_step 12 rfl (by kernel_rfl) (by rfl) (fun K hK => ?_)
         --RAW
         apply wp_store_one 38
         case ho => exact rfl
         case hx => exact rfl
         case hy => exact rfl
         case hg => exact P
         case hle => simp
         case hv => rfl
         case hi => kernel_rfl
         case h1 => rfl
         intro wn g5 P5
         have x5 := Ext.of_grown (M := fun j => j = g ∨ B ≤ j) g5 (fun j h => by injection h with h; exact .inl h.symm)
         replace e6 := e6.trans x5
         replace E := E.kept g5 (E.ne P (by decide))
         refine hK.out _ _ x5 ?_
         clear hK K
         refine rg_done (by kernel_rfl) ?_
         --TAIL
         replace E := rpo_end HHB.out E
         have X9 := (e6.block gx (heap_lt HX8.out) (by omega)).trans HX8.out
         have x9 := (cells_of X9).1
         have e10 : Ext (fun j => j = g) w wn := (HE8.out.trans (e6.more (M' := fun j => j = g ∨ w.heap.size ≤ j) (fun j h => h.imp id (Nat.le_trans HWB.out)))).old (Nat.le_refl _)
         clear P g5 x5 hB2 KX X9 e6
         rcases b with _ | _
         · go_wp2_with fail
           go_ret
           exact ⟨A3, _, k3, rfl, P5, E, e10⟩
         · rcases d1 : decide (0 ≤ po) with _ | _
           all_goals
             have HD1 := Lib.hid d1
             go_wp2_with fail
             go_ret
             exact ⟨A3, _, k3, by first | rfl | (rw [HD1.out]; rfl), P5, E, e10⟩
     · go_simp
       have q : Below wn.heap.size wn (wn.alloc (.cells (opC ⟨17, po, x, tp⟩) 72)) := (Below.refl _ _).alloc (Nat.le_refl _) _
       have R := heap_alloc_new wn (.cells (opC ⟨17, po, x, tp⟩) 72)
       replace P := below_at q P (heap_lt P)
       try replace F := F.below q
       replace e6 := e6.trans (Ext.below_all _ q)
       replace hB2 := Nat.le_trans hB2 q.size
       refine hK.out _ _ (Ext.below_all _ q) ?_
       obtain ⟨g1, hg1⟩ : ∃ y, wn.heap.size = y := ⟨_, rfl⟩
       try have hRE := E.new (Nat.le_of_eq hg1)
       try replace E := E.below q
       rw [hg1] at R ⊢
       clear q hg1
       try clear kA
       first | (generalize wn.alloc (.cells (opC ⟨17, po, x, tp⟩) 72) = wn at P F E R e6 hB2 ⊢) | (generalize wn.alloc (.cells (opC ⟨17, po, x, tp⟩) 72) = wn at P F R e6 hB2 ⊢) | (generalize wn.alloc (.cells (opC ⟨17, po, x, tp⟩) 72) = wn at P E R e6 hB2 ⊢)
       have kA := (cells_of P).1 39
       clear hK K; try simp only [Act.put, List.setIfInBounds_toArray, List.set_cons_zero, List.set_cons_succ]
       refine rg_step 5 rfl (by kernel_rfl) (by rfl) (fun K hK => ?_)
       go_simp
       refine hK.out _ _ (Ext.refl _ _) ?_
       clear hK K; try simp only [Act.put, List.setIfInBounds_toArray, List.set_cons_zero, List.set_cons_succ]
       refine rg_step 6 rfl (by kernel_rfl) (by rfl) (fun K hK => ?_)
       refine wp_appN _ _ 38 72 7 32 _ Tryz.underlying38 infoROp rfl (by omega) (by omega) rfl B _ _ _ _ _ rfl E H _ _ _ _ _ rfl F (opL_one lo) (by omega) hB2 ?_
       intro A2 k2 wn E2 b3 g3
       replace P := (b3.block g hgB).trans P
       have x3 := Ext.of_grown (M := fun j => j = g ∨ B ≤ j) g3 (fun j hj => .inr (E.lt j hj).1)
       try replace R := (g3.block _ (heap_lt R) hRE).trans R
       replace e6 := e6.trans x3
       replace hB2 := Nat.le_trans hB2 b3.size
       replace E := E2
       refine hK.out _ _ x3 ?_
       obtain ⟨n', hn'⟩ : ∃ y, 0 + n = y := ⟨_, rfl⟩
       rw [hn'] at E ⊢
       clear hn'
       simp only [Nat.zero_add, List.nil_append] at E
       clear x3 g3 b3 E2 kA F
       clear hK K; try simp only [Act.put, List.setIfInBounds_toArray, List.set_cons_zero, List.set_cons_succ]
       refine rg_step 9 rfl (by kernel_rfl) (by rfl) (fun K hK => ?_)
       refine wp_appT _ _ 38 72 7 32 _ Tryz.underlying38 infoROp rfl (by omega) (by omega) rfl B _ _ _ _ _ rfl E _ _ rfl (opC ⟨17, po, x, tp⟩) rfl R (by simp [Value.oneCell']) (by omega) hB2 ?_
       intro A3 k3 wn E3 b3 g3
       replace P := (b3.block g hgB).trans P
       have x3 := Ext.of_grown (M := fun j => j = g ∨ B ≤ j) g3 (fun j hj => .inr (E.lt j hj).1)
       replace e6 := e6.trans x3
       replace E := E3
       refine hK.out _ _ x3 ?_
       clear x3 g3 b3 E3
       try clear kA
       clear hK K; try simp only [Act.put, List.setIfInBounds_toArray, List.set_cons_zero, List.set_cons_succ]
       refine rg_take (v := ?_) 10 rfl (by kernel_rfl) (by kernel_rfl) (by kernel_rfl) (fun _ _ _ h => h) (by rfl) ?_ ?_; rotate_left
       · (intro x hx; go_simp; first | done | with_reducible rfl | (rw [if_pos (by omega)]; try with_reducible rfl) | (rw [if_neg (by omega)]; try with_reducible rfl))
       try simp only [Act.put, List.setIfInBounds_toArray, List.set_cons_zero, List.set_cons_succ]
       refine rg_take (v := ?_) 11 rfl (by kernel_rfl) (by kernel_rfl) (by kernel_rfl) (fun _ _ _ h => h) (by rfl) ?_ ?_; rotate_left
       · (intro x hx; go_simp; first | done | with_reducible rfl | (rw [if_pos (by omega)]; try with_reducible rfl) | (rw [if_neg (by omega)]; try with_reducible rfl))
       try simp only [Act.put, List.setIfInBounds_toArray, List.set_cons_zero, List.set_cons_succ]
       refine rg_step 12 rfl (by kernel_rfl) (by rfl) (fun K hK => ?_)
       --RAW
       apply wp_store_one 38
       case ho => exact rfl
       case hx => exact rfl
       case hy => exact rfl
       case hg => exact P
       case hle => simp
       case hv => rfl
       case hi => kernel_rfl
       case h1 => rfl
       intro wn g5 P5
       have x5 := Ext.of_grown (M := fun j => j = g ∨ B ≤ j) g5 (fun j h => by injection h with h; exact .inl h.symm)
       replace e6 := e6.trans x5
       replace E := E.kept g5 (E.ne P (by decide))
       refine hK.out _ _ x5 ?_
       clear hK K
       refine rg_done (by kernel_rfl) ?_
       --TAIL
       replace E := rpo_end HHB.out E
       have X9 := (e6.block gx (heap_lt HX8.out) (by omega)).trans HX8.out
       have x9 := (cells_of X9).1
       have e10 : Ext (fun j => j = g) w wn := (HE8.out.trans (e6.more (M' := fun j => j = g ∨ w.heap.size ≤ j) (fun j h => h.imp id (Nat.le_trans HWB.out)))).old (Nat.le_refl _)
       clear P g5 x5 hB2 KX X9 e6
       rcases b with _ | _
       · go_wp2_with fail
         go_ret
         exact ⟨A3, _, k3, rfl, P5, E, e10⟩
       · rcases d1 : decide (0 ≤ po) with _ | _
         all_goals
           have HD1 := Lib.hid d1
           go_wp2_with fail
           go_ret
           exact ⟨A3, _, k3, by first | rfl | (rw [HD1.out]; rfl), P5, E, e10⟩
   · go_simp
     refine hK.out _ _ (Ext.refl _ _) ?_
     clear hK K; try simp only [Act.put, List.setIfInBounds_toArray, List.set_cons_zero, List.set_cons_succ]
     refine rg_two 1 8 rfl rfl (by kernel_rfl) (by rfl) (by rfl) (fun K hK => ?_) (fun K hK => ?_)
     · go_simp
       have q : Below wn.heap.size wn (wn.alloc (.cells #[] 72)) := (Below.refl _ _).alloc (Nat.le_refl _) _
       have E : TO (wn.alloc (.cells #[] 72)) B 72 7 (some ⟨wn.heap.size, 0, none⟩) 0 0 0 [] := ⟨rfl, World.ownsRow_lit wn #[] 0 hB2 (by unfold maxLen; omega) rfl⟩
       replace P := below_at q P (heap_lt P)
       replace F := F.below q
       replace e6 := e6.trans (Ext.below_all _ q)
       replace hB2 := Nat.le_trans hB2 q.size
       refine hK.out _ _ (Ext.below_all _ q) ?_
       obtain ⟨g0, hg0⟩ : ∃ y, wn.heap.size = y := ⟨_, rfl⟩
       try have hRE := old_ne (n := 0) (c := 0) hg0 R
       try replace R := below_at q R (heap_lt R)
       rw [hg0] at E ⊢
       clear q hg0 kA
       first | (generalize wn.alloc (.cells #[] 72) = wn at P F E R e6 hB2 ⊢) | (generalize wn.alloc (.cells #[] 72) = wn at P F E e6 hB2 ⊢)
       have kA := (cells_of P).1 39
       clear hK K; try simp only [Act.put, List.setIfInBounds_toArray, List.set_cons_zero, List.set_cons_succ]
       refine rg_two 6 8 rfl rfl (by kernel_rfl) (by rfl) (by rfl) (fun K hK => ?_) (fun K hK => ?_)
       · refine wp_appN _ _ 38 72 7 32 _ Tryz.underlying38 infoROp rfl (by omega) (by omega) rfl B _ _ _ _ _ rfl E H _ _ _ _ _ rfl F (opL_one lo) (by omega) hB2 ?_
         intro A2 k2 wn E2 b3 g3
         replace P := (b3.block g hgB).trans P
         have x3 := Ext.of_grown (M := fun j => j = g ∨ B ≤ j) g3 (fun j hj => .inr (E.lt j hj).1)
         try replace R := (g3.block _ (heap_lt R) hRE).trans R
         replace e6 := e6.trans x3
         replace hB2 := Nat.le_trans hB2 b3.size
         replace E := E2
         refine hK.out _ _ x3 ?_
         obtain ⟨n', hn'⟩ : ∃ y, 0 + n = y := ⟨_, rfl⟩
         rw [hn'] at E ⊢
         clear hn'
         simp only [Nat.zero_add, List.nil_append] at E
         clear x3 g3 b3 E2 kA F
         clear hK K; try simp only [Act.put, List.setIfInBounds_toArray, List.set_cons_zero, List.set_cons_succ]
         refine rg_step 8 rfl (by kernel_rfl) (by rfl) (fun K hK => ?_)
         go_simp
         have q : Below wn.heap.size wn (wn.alloc (.cells (opC ⟨17, po, x, tp⟩) 72)) := (Below.refl _ _).alloc (Nat.le_refl _) _
         have R := heap_alloc_new wn (.cells (opC ⟨17, po, x, tp⟩) 72)
         replace P := below_at q P (heap_lt P)
         try replace F := F.below q
         replace e6 := e6.trans (Ext.below_all _ q)
         replace hB2 := Nat.le_trans hB2 q.size
         refine hK.out _ _ (Ext.below_all _ q) ?_
         obtain ⟨g1, hg1⟩ : ∃ y, wn.heap.size = y := ⟨_, rfl⟩
         try have hRE := E.new (Nat.le_of_eq hg1)
         try replace E := E.below q
         rw [hg1] at R ⊢
         clear q hg1
         try clear kA
         first | (generalize wn.alloc (.cells (opC ⟨17, po, x, tp⟩) 72) = wn at P F E R e6 hB2 ⊢) | (generalize wn.alloc (.cells (opC ⟨17, po, x, tp⟩) 72) = wn at P F R e6 hB2 ⊢) | (generalize wn.alloc (.cells (opC ⟨17, po, x, tp⟩) 72) = wn at P E R e6 hB2 ⊢)
         have kA := (cells_of P).1 39
         clear hK K; try simp only [Act.put, List.setIfInBounds_toArray, List.set_cons_zero, List.set_cons_succ]
         refine rg_step 9 rfl (by kernel_rfl) (by rfl) (fun K hK => ?_)
         refine wp_appT _ _ 38 72 7 32 _ Tryz.underlying38 infoROp rfl (by omega) (by omega) rfl B _ _ _ _ _ rfl E _ _ rfl (opC ⟨17, po, x, tp⟩) rfl R (by simp [Value.oneCell']) (by omega) hB2 ?_
         intro A3 k3 wn E3 b3 g3
         replace P := (b3.block g hgB).trans P
         have x3 := Ext.of_grown (M := fun j => j = g ∨ B ≤ j) g3 (fun j hj => .inr (E.lt j hj).1)
         replace e6 := e6.trans x3
         replace E := E3
         refine hK.out _ _ x3 ?_
         clear x3 g3 b3 E3
         try clear kA
         clear hK K; try simp only [Act.put, List.setIfInBounds_toArray, List.set_cons_zero, List.set_cons_succ]
         refine rg_take (v := ?_) 10 rfl (by kernel_rfl) (by kernel_rfl) (by kernel_rfl) (fun _ _ _ h => h) (by rfl) ?_ ?_; rotate_left
         · (intro x hx; go_simp; first | done | with_reducible rfl | (rw [if_pos (by omega)]; try with_reducible rfl) | (rw [if_neg (by omega)]; try with_reducible rfl))
         try simp only [Act.put, List.setIfInBounds_toArray, List.set_cons_zero, List.set_cons_succ]
         refine rg_take (v := ?_) 11 rfl (by kernel_rfl) (by kernel_rfl) (by kernel_rfl) (fun _ _ _ h => h) (by rfl) ?_ ?_; rotate_left
         · (intro x hx; go_simp; first | done | with_reducible rfl | (rw [if_pos (by omega)]; try with_reducible rfl) | (rw [if_neg (by omega)]; try with_reducible rfl))
         try simp only [Act.put, List.setIfInBounds_toArray, List.set_cons_zero, List.set_cons_succ]
         refine rg_step 12 rfl (by kernel_rfl) (by rfl) (fun K hK => ?_)
         --RAW
         apply wp_store_one 38
         case ho => exact rfl
         case hx => exact rfl
         case hy => exact rfl
         case hg => exact P
         case hle => simp
         case hv => rfl
         case hi => kernel_rfl
         case h1 => rfl
         intro wn g5 P5
         have x5 := Ext.of_grown (M := fun j => j = g ∨ B ≤ j) g5 (fun j h => by injection h with h; exact .inl h.symm)
         replace e6 := e6.trans x5
         replace E := E.kept g5 (E.ne P (by decide))
         refine hK.out _ _ x5 ?_
         clear hK K
         refine rg_done (by kernel_rfl) ?_
         --TAIL
         replace E := rpo_end HHB.out E
         have X9 := (e6.block gx (heap_lt HX8.out) (by omega)).trans HX8.out
         have x9 := (cells_of X9).1
         have e10 : Ext (fun j => j = g) w wn := (HE8.out.trans (e6.more (M' := fun j => j = g ∨ w.heap.size ≤ j) (fun j h => h.imp id (Nat.le_trans HWB.out)))).old (Nat.le_refl _)
         clear P g5 x5 hB2 KX X9 e6
         rcases b with _ | _
         · go_wp2_with fail
           go_ret
           exact ⟨A3, _, k3, rfl, P5, E, e10⟩
         · rcases d1 : decide (0 ≤ po) with _ | _
           all_goals
             have HD1 := Lib.hid d1
             go_wp2_with fail
             go_ret
             exact ⟨A3, _, k3, by first | rfl | (rw [HD1.out]; rfl), P5, E, e10⟩
       · go_simp
         have q : Below wn.heap.size wn (wn.alloc (.cells (opC ⟨17, po, x, tp⟩) 72)) := (Below.refl _ _).alloc (Nat.le_refl _) _
         have R := heap_alloc_new wn (.cells (opC ⟨17, po, x, tp⟩) 72)
         replace P := below_at q P (heap_lt P)
         try replace F := F.below q
         replace e6 := e6.trans (Ext.below_all _ q)
         replace hB2 := Nat.le_trans hB2 q.size
         refine hK.out _ _ (Ext.below_all _ q) ?_
         obtain ⟨g1, hg1⟩ : ∃ y, wn.heap.size = y := ⟨_, rfl⟩
         try have hRE := E.new (Nat.le_of_eq hg1)
         try replace E := E.below q
         rw [hg1] at R ⊢
         clear q hg1
         try clear kA
         first | (generalize wn.alloc (.cells (opC ⟨17, po, x, tp⟩) 72) = wn at P F E R e6 hB2 ⊢) | (generalize wn.alloc (.cells (opC ⟨17, po, x, tp⟩) 72) = wn at P F R e6 hB2 ⊢) | (generalize wn.alloc (.cells (opC ⟨17, po, x, tp⟩) 72) = wn at P E R e6 hB2 ⊢)
         have kA := (cells_of P).1 39
         clear hK K; try simp only [Act.put, List.setIfInBounds_toArray, List.set_cons_zero, List.set_cons_succ]
         refine rg_step 6 rfl (by kernel_rfl) (by rfl) (fun K hK => ?_)
         refine wp_appN _ _ 38 72 7 32 _ Tryz.underlying38 infoROp rfl (by omega) (by omega) rfl B _ _ _ _ _ rfl E H _ _ _ _ _ rfl F (opL_one lo) (by omega) hB2 ?_
         intro A2 k2 wn E2 b3 g3
         replace P := (b3.block g hgB).trans P
         have x3 := Ext.of_grown (M := fun j => j = g ∨ B ≤ j) g3 (fun j hj => .inr (E.lt j hj).1)
         try replace R := (g3.block _ (heap_lt R) hRE).trans R
         replace e6 := e6.trans x3
         replace hB2 := Nat.le_trans hB2 b3.size
         replace E := E2
         refine hK.out _ _ x3 ?_
         obtain ⟨n', hn'⟩ : ∃ y, 0 + n = y := ⟨_, rfl⟩
         rw [hn'] at E ⊢
         clear hn'
         simp only [Nat.zero_add, List.nil_append] at E
         clear x3 g3 b3 E2 kA F
         clear hK K; try simp only [Act.put, List.setIfInBounds_toArray, List.set_cons_zero, List.set_cons_succ]
         refine rg_step 9 rfl (by kernel_rfl) (by rfl) (fun K hK => ?_)
         refine wp_appT _ _ 38 72 7 32 _ Tryz.underlying38 infoROp rfl (by omega) (by omega) rfl B _ _ _ _ _ rfl E _ _ rfl (opC ⟨17, po, x, tp⟩) rfl R (by simp [Value.oneCell']) (by omega) hB2 ?_
         intro A3 k3 wn E3 b3 g3
         replace P := (b3.block g hgB).trans P
         have x3 := Ext.of_grown (M := fun j => j = g ∨ B ≤ j) g3 (fun j hj => .inr (E.lt j hj).1)
         replace e6 := e6.trans x3
         replace E := E3
         refine hK.out _ _ x3 ?_
         clear x3 g3 b3 E3
         try clear kA
         clear hK K; try simp only [Act.put, List.setIfInBounds_toArray, List.set_cons_zero, List.set_cons_succ]
         refine rg_take (v := ?_) 10 rfl (by kernel_rfl) (by kernel_rfl) (by kernel_rfl) (fun _ _ _ h => h) (by rfl) ?_ ?_; rotate_left
         · (intro x hx; go_simp; first | done | with_reducible rfl | (rw [if_pos (by omega)]; try with_reducible rfl) | (rw [if_neg (by omega)]; try with_reducible rfl))
         try simp only [Act.put, List.setIfInBounds_toArray, List.set_cons_zero, List.set_cons_succ]
         refine rg_take (v := ?_) 11 rfl (by kernel_rfl) (by kernel_rfl) (by kernel_rfl) (fun _ _ _ h => h) (by rfl) ?_ ?_; rotate_left
         · (intro x hx; go_simp; first | done | with_reducible rfl | (rw [if_pos (by omega)]; try with_reducible rfl) | (rw [if_neg (by omega)]; try with_reducible rfl))
         try simp only [Act.put, List.setIfInBounds_toArray, List.set_cons_zero, List.set_cons_succ]
         refine rg_step 12 rfl (by kernel_rfl) (by rfl) (fun K hK => ?_)
         --RAW
         apply wp_store_one 38
         case ho => exact rfl
         case hx => exact rfl
         case hy => exact rfl
         case hg => exact P
         case hle => simp
         case hv => rfl
         case hi => kernel_rfl
         case h1 => rfl
         intro wn g5 P5
         have x5 := Ext.of_grown (M := fun j => j = g ∨ B ≤ j) g5 (fun j h => by injection h with h; exact .inl h.symm)
         replace e6 := e6.trans x5
         replace E := E.kept g5 (E.ne P (by decide))
         refine hK.out _ _ x5 ?_
         clear hK K
         refine rg_done (by kernel_rfl) ?_
         --TAIL
         replace E := rpo_end HHB.out E
         have X9 := (e6.block gx (heap_lt HX8.out) (by omega)).trans HX8.out
         have x9 := (cells_of X9).1
         have e10 : Ext (fun j => j = g) w wn := (HE8.out.trans (e6.more (M' := fun j => j = g ∨ w.heap.size ≤ j) (fun j h => h.imp id (Nat.le_trans HWB.out)))).old (Nat.le_refl _)
         clear P g5 x5 hB2 KX X9 e6
         rcases b with _ | _
         · go_wp2_with fail
           go_ret
           exact ⟨A3, _, k3, rfl, P5, E, e10⟩
         · rcases d1 : decide (0 ≤ po) with _ | _
           all_goals
             have HD1 := Lib.hid d1
             go_wp2_with fail
             go_ret
             exact ⟨A3, _, k3, by first | rfl | (rw [HD1.out]; rfl), P5, E, e10⟩
     · go_simp
       have q : Below wn.heap.size wn (wn.alloc (.cells (opC ⟨17, po, x, tp⟩) 72)) := (Below.refl _ _).alloc (Nat.le_refl _) _
       have R := heap_alloc_new wn (.cells (opC ⟨17, po, x, tp⟩) 72)
       replace P := below_at q P (heap_lt P)
       try replace F := F.below q
       replace e6 := e6.trans (Ext.below_all _ q)
       replace hB2 := Nat.le_trans hB2 q.size
       refine hK.out _ _ (Ext.below_all _ q) ?_
       obtain ⟨g1, hg1⟩ : ∃ y, wn.heap.size = y := ⟨_, rfl⟩
       try have hRE := E.new (Nat.le_of_eq hg1)
       try replace E := E.below q
       rw [hg1] at R ⊢
       clear q hg1
       try clear kA
       first | (generalize wn.alloc (.cells (opC ⟨17, po, x, tp⟩) 72) = wn at P F E R e6 hB2 ⊢) | (generalize wn.alloc (.cells (opC ⟨17, po, x, tp⟩) 72) = wn at P F R e6 hB2 ⊢) | (generalize wn.alloc (.cells (opC ⟨17, po, x, tp⟩) 72) = wn at P E R e6 hB2 ⊢)
       have kA := (cells_of P).1 39
       clear hK K; try simp only [Act.put, List.setIfInBounds_toArray, List.set_cons_zero, List.set_cons_succ]
       refine rg_step 1 rfl (by kernel_rfl) (by rfl) (fun K hK => ?_)
       go_simp
       have q : Below wn.heap.size wn (wn.alloc (.cells #[] 72)) := (Below.refl _ _).alloc (Nat.le_refl _) _
       have E : TO (wn.alloc (.cells #[] 72)) B 72 7 (some ⟨wn.heap.size, 0, none⟩) 0 0 0 [] := ⟨rfl, World.ownsRow_lit wn #[] 0 hB2 (by unfold maxLen; omega) rfl⟩
       replace P := below_at q P (heap_lt P)
       replace F := F.below q
       replace e6 := e6.trans (Ext.below_all _ q)
       replace hB2 := Nat.le_trans hB2 q.size
       refine hK.out _ _ (Ext.below_all _ q) ?_
       obtain ⟨g0, hg0⟩ : ∃ y, wn.heap.size = y := ⟨_, rfl⟩
       try have hRE := old_ne (n := 0) (c := 0) hg0 R
       try replace R := below_at q R (heap_lt R)
       rw [hg0] at E ⊢
       clear q hg0 kA
       first | (generalize wn.alloc (.cells #[] 72) = wn at P F E R e6 hB2 ⊢) | (generalize wn.alloc (.cells #[] 72) = wn at P F E e6 hB2 ⊢)
       have kA := (cells_of P).1 39
       clear hK K; try simp only [Act.put, List.setIfInBounds_toArray, List.set_cons_zero, List.set_cons_succ]
       refine rg_step 6 rfl (by kernel_rfl) (by rfl) (fun K hK => ?_)
       refine wp_appN _ _ 38 72 7 32 _ Tryz.underlying38 infoROp rfl (by omega) (by omega) rfl B _ _ _ _ _ rfl E H _ _ _ _ _ rfl F (opL_one lo) (by omega) hB2 ?_
       intro A2 k2 wn E2 b3 g3
       replace P := (b3.block g hgB).trans P
       have x3 := Ext.of_grown (M := fun j => j = g ∨ B ≤ j) g3 (fun j hj => .inr (E.lt j hj).1)
       try replace R := (g3.block _ (heap_lt R) hRE).trans R
       replace e6 := e6.trans x3
       replace hB2 := Nat.le_trans hB2 b3.size
       replace E := E2
       refine hK.out _ _ x3 ?_
       obtain ⟨n', hn'⟩ : ∃ y, 0 + n = y := ⟨_, rfl⟩
       rw [hn'] at E ⊢
       clear hn'
       simp only [Nat.zero_add, List.nil_append] at E
       clear x3 g3 b3 E2 kA F
       clear hK K; try simp only [Act.put, List.setIfInBounds_toArray, List.set_cons_zero, List.set_cons_succ]
       refine rg_step 9 rfl (by kernel_rfl) (by rfl) (fun K hK => ?_)
       refine wp_appT _ _ 38 72 7 32 _ Tryz.underlying38 infoROp rfl (by omega) (by omega) rfl B _ _ _ _ _ rfl E _ _ rfl (opC ⟨17, po, x, tp⟩) rfl R (by simp [Value.oneCell']) (by omega) hB2 ?_
       intro A3 k3 wn E3 b3 g3
       replace P := (b3.block g hgB).trans P
       have x3 := Ext.of_grown (M := fun j => j = g ∨ B ≤ j) g3 (fun j hj => .inr (E.lt j hj).1)
       replace e6 := e6.trans x3
       replace E := E3
       refine hK.out _ _ x3 ?_
       clear x3 g3 b3 E3
       try clear kA
       clear hK K; try simp only [Act.put, List.setIfInBounds_toArray, List.set_cons_zero, List.set_cons_succ]
       refine rg_take (v := ?_) 10 rfl (by kernel_rfl) (by kernel_rfl) (by kernel_rfl) (fun _ _ _ h => h) (by rfl) ?_ ?_; rotate_left
       · (intro x hx; go_simp; first | done | with_reducible rfl | (rw [if_pos (by omega)]; try with_reducible rfl) | (rw [if_neg (by omega)]; try with_reducible rfl))
       try simp only [Act.put, List.setIfInBounds_toArray, List.set_cons_zero, List.set_cons_succ]
       refine rg_take (v := ?_) 11 rfl (by kernel_rfl) (by kernel_rfl) (by kernel_rfl) (fun _ _ _ h => h) (by rfl) ?_ ?_; rotate_left
       · (intro x hx; go_simp; first | done | with_reducible rfl | (rw [if_pos (by omega)]; try with_reducible rfl) | (rw [if_neg (by omega)]; try with_reducible rfl))
       try simp only [Act.put, List.setIfInBounds_toArray, List.set_cons_zero, List.set_cons_succ]
       refine rg_step 12 rfl (by kernel_rfl) (by rfl) (fun K hK => ?_)
       --RAW
       apply wp_store_one 38
       case ho => exact rfl
       case hx => exact rfl
       case hy => exact rfl
       case hg => exact P
       case hle => simp
       case hv => rfl
       case hi => kernel_rfl
       case h1 => rfl
       intro wn g5 P5
       have x5 := Ext.of_grown (M := fun j => j = g ∨ B ≤ j) g5 (fun j h => by injection h with h; exact .inl h.symm)
       replace e6 := e6.trans x5
       replace E := E.kept g5 (E.ne P (by decide))
       refine hK.out _ _ x5 ?_
       clear hK K
       refine rg_done (by kernel_rfl) ?_
       --TAIL
       replace E := rpo_end HHB.out E
       have X9 := (e6.block gx (heap_lt HX8.out) (by omega)).trans HX8.out
       have x9 := (cells_of X9).1
       have e10 : Ext (fun j => j = g) w wn := (HE8.out.trans (e6.more (M' := fun j => j = g ∨ w.heap.size ≤ j) (fun j h => h.imp id (Nat.le_trans HWB.out)))).old (Nat.le_refl _)
       clear P g5 x5 hB2 KX X9 e6
       rcases b with _ | _
       · go_wp2_with fail
         go_ret
         exact ⟨A3, _, k3, rfl, P5, E, e10⟩
       · rcases d1 : decide (0 ≤ po) with _ | _
         all_goals
           have HD1 := Lib.hid d1
           go_wp2_with fail
           go_ret
           exact ⟨A3, _, k3, by first | rfl | (rw [HD1.out]; rfl), P5, E, e10⟩
   · go_simp
     have q : Below wn.heap.size wn (wn.alloc (.cells (opC ⟨17, po, x, tp⟩) 72)) := (Below.refl _ _).alloc (Nat.le_refl _) _
     have R := heap_alloc_new wn (.cells (opC ⟨17, po, x, tp⟩) 72)
     replace P := below_at q P (heap_lt P)
     try replace F := F.below q
     replace e6 := e6.trans (Ext.below_all _ q)
     replace hB2 := Nat.le_trans hB2 q.size
     refine hK.out _ _ (Ext.below_all _ q) ?_
     obtain ⟨g1, hg1⟩ : ∃ y, wn.heap.size = y := ⟨_, rfl⟩
     try have hRE := E.new (Nat.le_of_eq hg1)
     try replace E := E.below q
     rw [hg1] at R ⊢
     clear q hg1
     try clear kA
     first | (generalize wn.alloc (.cells (opC ⟨17, po, x, tp⟩) 72) = wn at P F E R e6 hB2 ⊢) | (generalize wn.alloc (.cells (opC ⟨17, po, x, tp⟩) 72) = wn at P F R e6 hB2 ⊢) | (generalize wn.alloc (.cells (opC ⟨17, po, x, tp⟩) 72) = wn at P E R e6 hB2 ⊢)
     have kA := (cells_of P).1 39
     clear hK K; try simp only [Act.put, List.setIfInBounds_toArray, List.set_cons_zero, List.set_cons_succ]
     refine rg_two 1 5 rfl rfl (by kernel_rfl) (by rfl) (by rfl) (fun K hK => ?_) (fun K hK => ?_)
     · go_simp
       have q : Below wn.heap.size wn (wn.alloc (.cells #[] 72)) := (Below.refl _ _).alloc (Nat.le_refl _) _
       have E : TO (wn.alloc (.cells #[] 72)) B 72 7 (some ⟨wn.heap.size, 0, none⟩) 0 0 0 [] := ⟨rfl, World.ownsRow_lit wn #[] 0 hB2 (by unfold maxLen; omega) rfl⟩
       replace P := below_at q P (heap_lt P)
       replace F := F.below q
       replace e6 := e6.trans (Ext.below_all _ q)
       replace hB2 := Nat.le_trans hB2 q.size
       refine hK.out _ _ (Ext.below_all _ q) ?_
       obtain ⟨g0, hg0⟩ : ∃ y, wn.heap.size = y := ⟨_, rfl⟩
       try have hRE := old_ne (n := 0) (c := 0) hg0 R
       try replace R := below_at q R (heap_lt R)
       rw [hg0] at E ⊢
       clear q hg0 kA
       first | (generalize wn.alloc (.cells #[] 72) = wn at P F E R e6 hB2 ⊢) | (generalize wn.alloc (.cells #[] 72) = wn at P F E e6 hB2 ⊢)
       have kA := (cells_of P).1 39
       clear hK K; try simp only [Act.put, List.setIfInBounds_toArray, List.set_cons_zero, List.set_cons_succ]
       refine rg_step 5 rfl (by kernel_rfl) (by rfl) (fun K hK => ?_)
       go_simp
       refine hK.out _ _ (Ext.refl _ _) ?_
       clear hK K; try simp only [Act.put, List.setIfInBounds_toArray, List.set_cons_zero, List.set_cons_succ]
       refine rg_step 6 rfl (by kernel_rfl) (by rfl) (fun K hK => ?_)
       refine wp_appN _ _ 38 72 7 32 _ Tryz.underlying38 infoROp rfl (by omega) (by omega) rfl B _ _ _ _ _ rfl E H _ _ _ _ _ rfl F (opL_one lo) (by omega) hB2 ?_
       intro A2 k2 wn E2 b3 g3
       replace P := (b3.block g hgB).trans P
       have x3 := Ext.of_grown (M := fun j => j = g ∨ B ≤ j) g3 (fun j hj => .inr (E.lt j hj).1)
       try replace R := (g3.block _ (heap_lt R) hRE).trans R
       replace e6 := e6.trans x3
       replace hB2 := Nat.le_trans hB2 b3.size
       replace E := E2
       refine hK.out _ _ x3 ?_
       obtain ⟨n', hn'⟩ : ∃ y, 0 + n = y := ⟨_, rfl⟩
       rw [hn'] at E ⊢
       clear hn'
       simp only [Nat.zero_add, List.nil_append] at E
       clear x3 g3 b3 E2 kA F
       clear hK K; try simp only [Act.put, List.setIfInBounds_toArray, List.set_cons_zero, List.set_cons_succ]
       refine rg_step 9 rfl (by kernel_rfl) (by rfl) (fun K hK => ?_)
       refine wp_appT _ _ 38 72 7 32 _ Tryz.underlying38 infoROp rfl (by omega) (by omega) rfl B _ _ _ _ _ rfl E _ _ rfl (opC ⟨17, po, x, tp⟩) rfl R (by simp [Value.oneCell']) (by omega) hB2 ?_
       intro A3 k3 wn E3 b3 g3
       replace P := (b3.block g hgB).trans P
       have x3 := Ext.of_grown (M := fun j => j = g ∨ B ≤ j) g3 (fun j hj => .inr (E.lt j hj).1)
       replace e6 := e6.trans x3
       replace E := E3
       refine hK.out _ _ x3 ?_
       clear x3 g3 b3 E3
       try clear kA
       clear hK K; try simp only [Act.put, List.setIfInBounds_toArray, List.set_cons_zero, List.set_cons_succ]
       refine rg_take (v := ?_) 10 rfl (by kernel_rfl) (by kernel_rfl) (by kernel_rfl) (fun _ _ _ h => h) (by rfl) ?_ ?_; rotate_left
       · (intro x hx; go_simp; first | done | with_reducible rfl | (rw [if_pos (by omega)]; try with_reducible rfl) | (rw [if_neg (by omega)]; try with_reducible rfl))
       try simp only [Act.put, List.setIfInBounds_toArray, List.set_cons_zero, List.set_cons_succ]
       refine rg_take (v := ?_) 11 rfl (by kernel_rfl) (by kernel_rfl) (by kernel_rfl) (fun _ _ _ h => h) (by rfl) ?_ ?_; rotate_left
       · (intro x hx; go_simp; first | done | with_reducible rfl | (rw [if_pos (by omega)]; try with_reducible rfl) | (rw [if_neg (by omega)]; try with_reducible rfl))
       try simp only [Act.put, List.setIfInBounds_toArray, List.set_cons_zero, List.set_cons_succ]
       refine rg_step 12 rfl (by kernel_rfl) (by rfl) (fun K hK => ?_)
       --RAW
       apply wp_store_one 38
       case ho => exact rfl
       case hx => exact rfl
       case hy => exact rfl
       case hg => exact P
       case hle => simp
       case hv => rfl
       case hi => kernel_rfl
       case h1 => rfl
       intro wn g5 P5
       have x5 := Ext.of_grown (M := fun j => j = g ∨ B ≤ j) g5 (fun j h => by injection h with h; exact .inl h.symm)
       replace e6 := e6.trans x5
       replace E := E.kept g5 (E.ne P (by decide))
       refine hK.out _ _ x5 ?_
       clear hK K
       refine rg_done (by kernel_rfl) ?_
       --TAIL
       replace E := rpo_end HHB.out E
       have X9 := (e6.block gx (heap_lt HX8.out) (by omega)).trans HX8.out
       have x9 := (cells_of X9).1
       have e10 : Ext (fun j => j = g) w wn := (HE8.out.trans (e6.more (M' := fun j => j = g ∨ w.heap.size ≤ j) (fun j h => h.imp id (Nat.le_trans HWB.out)))).old (Nat.le_refl _)
       clear P g5 x5 hB2 KX X9 e6
       rcases b with _ | _
       · go_wp2_with fail
         go_ret
         exact ⟨A3, _, k3, rfl, P5, E, e10⟩
       · rcases d1 : decide (0 ≤ po) with _ | _
         all_goals
           have HD1 := Lib.hid d1
           go_wp2_with fail
           go_ret
           exact ⟨A3, _, k3, by first | rfl | (rw [HD1.out]; rfl), P5, E, e10⟩
     · go_simp
       refine hK.out _ _ (Ext.refl _ _) ?_
       clear hK K; try simp only [Act.put, List.setIfInBounds_toArray, List.set_cons_zero, List.set_cons_succ]
       refine rg_step 1 rfl (by kernel_rfl) (by rfl) (fun K hK => ?_)
       go_simp
       have q : Below wn.heap.size wn (wn.alloc (.cells #[] 72)) := (Below.refl _ _).alloc (Nat.le_refl _) _
       have E : TO (wn.alloc (.cells #[] 72)) B 72 7 (some ⟨wn.heap.size, 0, none⟩) 0 0 0 [] := ⟨rfl, World.ownsRow_lit wn #[] 0 hB2 (by unfold maxLen; omega) rfl⟩
       replace P := below_at q P (heap_lt P)
       replace F := F.below q
       replace e6 := e6.trans (Ext.below_all _ q)
       replace hB2 := Nat.le_trans hB2 q.size
       refine hK.out _ _ (Ext.below_all _ q) ?_
       obtain ⟨g0, hg0⟩ : ∃ y, wn.heap.size = y := ⟨_, rfl⟩
       try have hRE := old_ne (n := 0) (c := 0) hg0 R
       try replace R := below_at q R (heap_lt R)
       rw [hg0] at E ⊢
       clear q hg0 kA
       first | (generalize wn.alloc (.cells #[] 72) = wn at P F E R e6 hB2 ⊢) | (generalize wn.alloc (.cells #[] 72) = wn at P F E e6 hB2 ⊢)
       have kA := (cells_of P).1 39
       clear hK K; try simp only [Act.put, List.setIfInBounds_toArray, List.set_cons_zero, List.set_cons_succ]
       refine rg_step 6 rfl (by kernel_rfl) (by rfl) (fun K hK => ?_)
       refine wp_appN _ _ 38 72 7 32 _ Tryz.underlying38 infoROp rfl (by omega) (by omega) rfl B _ _ _ _ _ rfl E H _ _ _ _ _ rfl F (opL_one lo) (by omega) hB2 ?_
       intro A2 k2 wn E2 b3 g3
       replace P := (b3.block g hgB).trans P
       have x3 := Ext.of_grown (M := fun j => j = g ∨ B ≤ j) g3 (fun j hj => .inr (E.lt j hj).1)
       try replace R := (g3.block _ (heap_lt R) hRE).trans R
       replace e6 := e6.trans x3
       replace hB2 := Nat.le_trans hB2 b3.size
       replace E := E2
       refine hK.out _ _ x3 ?_
       obtain ⟨n', hn'⟩ : ∃ y, 0 + n = y := ⟨_, rfl⟩
       rw [hn'] at E ⊢
       clear hn'
       simp only [Nat.zero_add, List.nil_append] at E
       clear x3 g3 b3 E2 kA F
       clear hK K; try simp only [Act.put, List.setIfInBounds_toArray, List.set_cons_zero, List.set_cons_succ]
       refine rg_step 9 rfl (by kernel_rfl) (by rfl) (fun K hK => ?_)
       refine wp_appT _ _ 38 72 7 32 _ Tryz.underlying38 infoROp rfl (by omega) (by omega) rfl B _ _ _ _ _ rfl E _ _ rfl (opC ⟨17, po, x, tp⟩) rfl R (by simp [Value.oneCell']) (by omega) hB2 ?_
       intro A3 k3 wn E3 b3 g3
       replace P := (b3.block g hgB).trans P
       have x3 := Ext.of_grown (M := fun j => j = g ∨ B ≤ j) g3 (fun j hj => .inr (E.lt j hj).1)
       replace e6 := e6.trans x3
       replace E := E3
       refine hK.out _ _ x3 ?_
       clear x3 g3 b3 E3
       try clear kA
       clear hK K; try simp only [Act.put, List.setIfInBounds_toArray, List.set_cons_zero, List.set_cons_succ]
       refine rg_take (v := ?_) 10 rfl (by kernel_rfl) (by kernel_rfl) (by kernel_rfl) (fun _ _ _ h => h) (by rfl) ?_ ?_; rotate_left
       · (intro x hx; go_simp; first | done | with_reducible rfl | (rw [if_pos (by omega)]; try with_reducible rfl) | (rw [if_neg (by omega)]; try with_reducible rfl))
       try simp only [Act.put, List.setIfInBounds_toArray, List.set_cons_zero, List.set_cons_succ]
       refine rg_take (v := ?_) 11 rfl (by kernel_rfl) (by kernel_rfl) (by kernel_rfl) (fun _ _ _ h => h) (by rfl) ?_ ?_; rotate_left
       · (intro x hx; go_simp; first | done | with_reducible rfl | (rw [if_pos (by omega)]; try with_reducible rfl) | (rw [if_neg (by omega)]; try with_reducible rfl))
       try simp only [Act.put, List.setIfInBounds_toArray, List.set_cons_zero, List.set_cons_succ]
       refine rg_step 12 rfl (by kernel_rfl) (by rfl) (fun K hK => ?_)
       --RAW
       apply wp_store_one 38
       case ho => exact rfl
       case hx => exact rfl
       case hy => exact rfl
       case hg => exact P
       case hle => simp
       case hv => rfl
       case hi => kernel_rfl
       case h1 => rfl
       intro wn g5 P5
       have x5 := Ext.of_grown (M := fun j => j = g ∨ B ≤ j) g5 (fun j h => by injection h with h; exact .inl h.symm)
       replace e6 := e6.trans x5
       replace E := E.kept g5 (E.ne P (by decide))
       refine hK.out _ _ x5 ?_
       clear hK K
       refine rg_done (by kernel_rfl) ?_
       --TAIL
       replace E := rpo_end HHB.out E
       have X9 := (e6.block gx (heap_lt HX8.out) (by omega)).trans HX8.out
       have x9 := (cells_of X9).1
       have e10 : Ext (fun j => j = g) w wn := (HE8.out.trans (e6.more (M' := fun j => j = g ∨ w.heap.size ≤ j) (fun j h => h.imp id (Nat.le_trans HWB.out)))).old (Nat.le_refl _)
       clear P g5 x5 hB2 KX X9 e6
       rcases b with _ | _
       · go_wp2_with fail
         go_ret
         exact ⟨A3, _, k3, rfl, P5, E, e10⟩
       · rcases d1 : decide (0 ≤ po) with _ | _
         all_goals
           have HD1 := Lib.hid d1
           go_wp2_with fail
           go_ret
           exact ⟨A3, _, k3, by first | rfl | (rw [HD1.out]; rfl), P5, E, e10⟩
set_option maxRecDepth 100000 in
set_option maxHeartbeats 16000000 in
theorem rval_open_tcp (w : World) (g H : Nat) (hH : H ≤ w.heap.size) (c : Cf) (vf : Value) (A : Option Addr) (n k : Nat) (lo : List Opn) (P : RCB w g c vf (.slice A n k)) (F : RPO w H A n k lo) (hlo : lo.length ≤ 100000) (v : List UInt8) (hl : v.length ≤ 20000) (h2 : (words v).length = 4) (hp0 : (words v).getD 0 [] = sTcp) :
    Calls Tryz.prog 24 #[.pointer (some ⟨g, 0, none⟩), .string (str nOpen), .string (str v)] w
      (RvO w H g c vf (lo ++ [⟨6, refG ((words v).getD 1 []) mostN, (parseV ((words v).getD 2 [])).1, refG ((words v).getD 3 []) mostN⟩])
        (decide ((parseV ((words v).getD 2 [])).2 = 0) && decide (0 ≤ refG ((words v).getD 1 []) mostN) && decide (0 ≤ refG ((words v).getD 3 []) mostN))) := by
  have x0 : ((str nOpen).toList == [108, 97, 110]) = false := by rw [toList_str]; rfl
  have x1 : ((str nOpen).toList == [108, 97, 110, 109, 97, 99]) = false := by rw [toList_str]; rfl
  have x2 : ((str nOpen).toList == [119, 97, 110, 109, 97, 99]) = false := by rw [toList_str]; rfl
  have x3 : ((str nOpen).toList == [102, 105, 114, 115, 116]) = false := by rw [toList_str]; rfl
  have x4 : ((str nOpen).toList == [108, 97, 115, 116]) = false := by rw [toList_str]; rfl
  have x5 : ((str nOpen).toList == [100, 110, 115]) = false := by rw [toList_str]; rfl
  have x6 : ((str nOpen).toList == [102, 105, 120, 101, 100]) = false := by rw [toList_str]; rfl
  have x7 : ((str nOpen).toList == [111, 112, 101, 110]) = true := by rw [toList_str]; rfl
  have hwd := rwords_any w v (by omega)
  have hlen : ∀ i, i < 4 → ((words v).getD i []).length ≤ 20000 := fun i hi => Nat.le_trans (words_mem v _ (List.mem_iff_getElem?.2 ⟨i, getD_some [] (by omega)⟩)) hl
  obtain ⟨L, hL⟩ : ∃ L, words v = L := ⟨_, rfl⟩
  rw [hL] at hwd hlen h2 hp0 ⊢
  obtain ⟨po, hpo, hp1⟩ := rnum_k (L.getD 1 []) (hlen 1 (by decide))
  obtain ⟨x, b, hx, hb, hp2⟩ := rparse_xb (L.getD 2 []) (hlen 2 (by decide))
  obtain ⟨tp, htp, hp3⟩ := rnum_k (L.getD 3 []) (hlen 3 (by decide))
  rw [← hx, ← hb, ← hpo, ← htp]
  have hgl := heap_lt P
  clear hx hb hpo htp hL hlen
  go_enter Tryz.func24, Tryz.ntmps24
  go_wp2_with fail
  refine hwd.mono ?_
  rintro e w1 ⟨AW, nw, cc, rfl, ho, q1⟩
  have P1 : RCB w1 g c vf (.slice A n k) := below_at q1 P hgl
  have e1 := Ext.below_all (fun j => j = g) q1
  have hn : nw = 4 := by have := ho.1; omega
  subst hn
  obtain ⟨bb, o, rfl, hbl, hc0⟩ := ho.at_ (getD_some [] (show 0 < L.length by omega))
  obtain ⟨_, _, ee, _, hc1⟩ := ho.at_ (getD_some [] (show 1 < L.length by omega))
  obtain ⟨rfl, rfl⟩ : bb = _ ∧ o = _ := by injection ee with ee; injection ee with ee e2; exact ⟨ee, e2⟩
  obtain ⟨_, _, ee, _, hc2⟩ := ho.at_ (getD_some [] (show 2 < L.length by omega))
  obtain ⟨rfl, rfl⟩ : bb = _ ∧ o = _ := by injection ee with ee; injection ee with ee e2; exact ⟨ee, e2⟩
  obtain ⟨_, _, ee, _, hc3⟩ := ho.at_ (getD_some [] (show 3 < L.length by omega))
  obtain ⟨rfl, rfl⟩ : bb = _ ∧ o = _ := by injection ee with ee; injection ee with ee e2; exact ⟨ee, e2⟩
  obtain ⟨p1, hq1⟩ : ∃ p, L.getD 1 [] = p := ⟨_, rfl⟩
  obtain ⟨p2, hq2⟩ : ∃ p, L.getD 2 [] = p := ⟨_, rfl⟩
  obtain ⟨p3, hq3⟩ : ∃ p, L.getD 3 [] = p := ⟨_, rfl⟩
  rw [hp0, Nat.add_zero] at hc0
  rw [hq1] at hc1 hp1
  rw [hq2] at hc2 hp2
  rw [hq3] at hc3 hp3
  have F1 := F.below q1
  have HFO := Lib.hid (show ∀ j, (Value.slice A n k).ownBlock = some j → j < w.heap.size from fun j hj => (F.lt j hj).2)
  have HSZ := Lib.hid q1.size
  have hH1 : H ≤ w1.heap.size := by have := q1.size; omega
  have HC2 := Lib.hid (⟨hc0, hc2⟩ : _ ∧ _)
  have HC3 := Lib.hid (⟨hc1, hc3⟩ : _ ∧ _)
  have y1 : ((str sTcp).toList == [117, 100, 112]) = false := by rw [toList_str]; rfl
  have y2 : ((str sTcp).toList == [116, 99, 112]) = true := by rw [toList_str]; rfl
  clear P F q1 hwd hgl ho h2 hp0 hq1 hq2 hq3 ee hc1 hc2 hc3
  go_upto_region 42 with fail
  clear hc0
  go_cut [21] (fun v wx => ∃ gx, v = .pointer (some ⟨gx, 0, none⟩) ∧ w1.heap.size ≤ gx ∧ wx.heap[gx]? = some (.cells (opC ⟨17, po, ⟨0, 0, 0, 0⟩, tp⟩) 72 (0, 0)) ∧ Below w1.heap.size w1 wx)
  case first =>
   as_aux_lemma =>
   have Z0 : (w1.drew.alloc (.cells (opC ⟨0, 0, ⟨0, 0, 0, 0⟩, 0⟩) 72)).heap[w1.heap.size]? = some (.cells (opC ⟨0, 0, ⟨0, 0, 0, 0⟩, 0⟩) 72 (0, 0)) := heap_alloc_new w1.drew _
   have bz : Below w1.heap.size w1 (w1.drew.alloc (.cells (opC ⟨0, 0, ⟨0, 0, 0, 0⟩, 0⟩) 72)) := (Below.refl _ w1).drew.alloc (Nat.le_refl _) _
   have k1 := Ext.cell (w := w1.drew) (M := fun j => w1.heap.size ≤ j) HC3.out.1 (by omega)
   have k3 := Ext.cell (w := w1.drew) (M := fun j => w1.heap.size ≤ j) HC3.out.2 (by omega)
   refine rg_begin (fun j => w1.heap.size ≤ j) (by kernel_rfl) ?_
   refine rg_take (v := ?_) 0 rfl (by kernel_rfl) (by kernel_rfl) (by kernel_rfl) (fun _ _ _ h => h) (by rfl) ?_ ?_; rotate_left
   · (intro x hx; go_simp; first | done | with_reducible rfl | (rw [if_pos (by omega)]; try with_reducible rfl) | (rw [if_neg (by omega)]; try with_reducible rfl))
   try simp only [Act.put, List.setIfInBounds_toArray, List.set_cons_zero, List.set_cons_succ]
   refine rg_take (v := ?_) 1 rfl (by kernel_rfl) (by kernel_rfl) (by kernel_rfl) (fun _ _ _ h => h) (by rfl) ?_ ?_; rotate_left
   · (intro x hx; go_simp; first | done | with_reducible rfl | (rw [if_pos (by omega)]; try with_reducible rfl) | (rw [if_neg (by omega)]; try with_reducible rfl))
   try simp only [Act.put, List.setIfInBounds_toArray, List.set_cons_zero, List.set_cons_succ]
   refine rg_take (v := ?_) 2 rfl (by kernel_rfl) (by kernel_rfl) (by kernel_rfl) (fun _ _ _ h => h) (by rfl) ?_ ?_; rotate_left
   · (intro x hx; go_simp; first | done | with_reducible rfl | (rw [if_pos (by omega)]; try with_reducible rfl) | (rw [if_neg (by omega)]; try with_reducible rfl))
   try simp only [Act.put, List.setIfInBounds_toArray, List.set_cons_zero, List.set_cons_succ]
   refine rg_take (v := ?_) 4 rfl (by kernel_rfl) (by kernel_rfl) (by kernel_rfl) (fun _ _ _ h => h) (by rfl) ?_ ?_; rotate_left
   · (intro x hx; go_simp; first | done | with_reducible rfl | (rw [if_pos (by omega)]; try with_reducible rfl) | (rw [if_neg (by omega)]; try with_reducible rfl))
   try simp only [Act.put, List.setIfInBounds_toArray, List.set_cons_zero, List.set_cons_succ]
   refine rg_take (v := ?_) 5 rfl (by kernel_rfl) (by kernel_rfl) (by kernel_rfl) (fun _ _ _ h => h) (by rfl) ?_ ?_; rotate_left
   · (intro x hx; go_simp; first | done | with_reducible rfl | (rw [if_pos (by omega)]; try with_reducible rfl) | (rw [if_neg (by omega)]; try with_reducible rfl))
   try simp only [Act.put, List.setIfInBounds_toArray, List.set_cons_zero, List.set_cons_succ]
   refine rg_take (v := ?_) 6 rfl (by kernel_rfl) (by kernel_rfl) (by kernel_rfl) (fun _ _ _ h => h) (by rfl) ?_ ?_; rotate_left
   · (intro x hx; go_simp; first | done | with_reducible rfl | (rw [if_pos (by omega)]; try with_reducible rfl) | (rw [if_neg (by omega)]; try with_reducible rfl))
   try simp only [Act.put, List.setIfInBounds_toArray, List.set_cons_zero, List.set_cons_succ]
   refine rg_two 3 9 rfl rfl (by kernel_rfl) (by rfl) (by rfl) (fun K hK => ?_) (fun K hK => ?_)
   · go_simp
     refine (hp1 _).mono ?_
     rintro e wz ⟨rfl, rfl⟩
     refine hK.out _ _ (Ext.refl _ _) ?_
     clear hK K; try simp only [Act.put, List.setIfInBounds_toArray, List.set_cons_zero, List.set_cons_succ]
     refine rg_two 7 9 rfl rfl (by kernel_rfl) (by rfl) (by rfl) (fun K hK => ?_) (fun K hK => ?_)
     · go_simp
       refine (hp3 _).mono ?_
       rintro e wz ⟨rfl, rfl⟩
       refine hK.out _ _ (Ext.refl _ _) ?_
       clear hK K; try simp only [Act.put, List.setIfInBounds_toArray, List.set_cons_zero, List.set_cons_succ]
       refine rg_take (v := ?_) 8 rfl (by kernel_rfl) (by kernel_rfl) (by kernel_rfl) (fun _ _ _ h => h) (by rfl) ?_ ?_; rotate_left
       · (intro x hx; go_simp; first | done | with_reducible rfl | (rw [if_pos (by omega)]; try with_reducible rfl) | (rw [if_neg (by omega)]; try with_reducible rfl))
       try simp only [Act.put, List.setIfInBounds_toArray, List.set_cons_zero, List.set_cons_succ]
       refine rg_step 9 rfl (by kernel_rfl) (by rfl) (fun K hK => ?_)
       go_simp
       refine hK.out _ _ (Ext.below_all _ ((Below.refl _ _).alloc (Nat.le_refl _) _)) ?_
       clear hK K; try simp only [Act.put, List.setIfInBounds_toArray, List.set_cons_zero, List.set_cons_succ]
       refine rg_step 10 rfl (by kernel_rfl) (by rfl) (fun K hK => ?_)
       --RAW
       apply wp_store_part 72
       case ho => exact rfl
       case hx => exact rfl
       case hy => exact rfl
       case hg => exact Z0
       case hle => simp
       case hi => kernel_rfl
       case h1 => kernel_rfl
       intro w2 g2 X2
       refine hK.out _ _ (Ext.of_grown g2 (fun j h => by injection h with h; rw [← h]; exact Nat.le_refl _)) ?_
       clear hK K
       refine rg_done (by kernel_rfl) ?_
       --TAIL
       go_wp2_with fail
       go_meet
       exact ⟨w1.heap.size, rfl, Nat.le_refl _, X2, below_grown bz g2 bz.size (Nat.le_refl _)⟩
     · go_simp
       refine hK.out _ _ (Ext.below_all _ ((Below.refl _ _).alloc (Nat.le_refl _) _)) ?_
       clear hK K; try simp only [Act.put, List.setIfInBounds_toArray, List.set_cons_zero, List.set_cons_succ]
       refine rg_step 7 rfl (by kernel_rfl) (by rfl) (fun K hK => ?_)
       go_simp
       refine (hp3 _).mono ?_
       rintro e wz ⟨rfl, rfl⟩
       refine hK.out _ _ (Ext.refl _ _) ?_
       clear hK K; try simp only [Act.put, List.setIfInBounds_toArray, List.set_cons_zero, List.set_cons_succ]
       refine rg_take (v := ?_) 8 rfl (by kernel_rfl) (by kernel_rfl) (by kernel_rfl) (fun _ _ _ h => h) (by rfl) ?_ ?_; rotate_left
       · (intro x hx; go_simp; first | done | with_reducible rfl | (rw [if_pos (by omega)]; try with_reducible rfl) | (rw [if_neg (by omega)]; try with_reducible rfl))
       try simp only [Act.put, List.setIfInBounds_toArray, List.set_cons_zero, List.set_cons_succ]
       refine rg_step 10 rfl (by kernel_rfl) (by rfl) (fun K hK => ?_)
       --RAW
       apply wp_store_part 72
       case ho => exact rfl
       case hx => exact rfl
       case hy => exact rfl
       case hg => exact Z0
       case hle => simp
       case hi => kernel_rfl
       case h1 => kernel_rfl
       intro w2 g2 X2
       refine hK.out _ _ (Ext.of_grown g2 (fun j h => by injection h with h; rw [← h]; exact Nat.le_refl _)) ?_
       clear hK K
       refine rg_done (by kernel_rfl) ?_
       --TAIL
       go_wp2_with fail
       go_meet
       exact ⟨w1.heap.size, rfl, Nat.le_refl _, X2, below_grown bz g2 bz.size (Nat.le_refl _)⟩
   · go_simp
     refine hK.out _ _ (Ext.below_all _ ((Below.refl _ _).alloc (Nat.le_refl _) _)) ?_
     clear hK K; try simp only [Act.put, List.setIfInBounds_toArray, List.set_cons_zero, List.set_cons_succ]
     refine rg_step 3 rfl (by kernel_rfl) (by rfl) (fun K hK => ?_)
     go_simp
     refine (hp1 _).mono ?_
     rintro e wz ⟨rfl, rfl⟩
     refine hK.out _ _ (Ext.refl _ _) ?_
     clear hK K; try simp only [Act.put, List.setIfInBounds_toArray, List.set_cons_zero, List.set_cons_succ]
     refine rg_step 7 rfl (by kernel_rfl) (by rfl) (fun K hK => ?_)
     go_simp
     refine (hp3 _).mono ?_
     rintro e wz ⟨rfl, rfl⟩
     refine hK.out _ _ (Ext.refl _ _) ?_
     clear hK K; try simp only [Act.put, List.setIfInBounds_toArray, List.set_cons_zero, List.set_cons_succ]
     refine rg_take (v := ?_) 8 rfl (by kernel_rfl) (by kernel_rfl) (by kernel_rfl) (fun _ _ _ h => h) (by rfl) ?_ ?_; rotate_left
     · (intro x hx; go_simp; first | done | with_reducible rfl | (rw [if_pos (by omega)]; try with_reducible rfl) | (rw [if_neg (by omega)]; try with_reducible rfl))
     try simp only [Act.put, List.setIfInBounds_toArray, List.set_cons_zero, List.set_cons_succ]
     refine rg_step 10 rfl (by kernel_rfl) (by rfl) (fun K hK => ?_)
     --RAW
     apply wp_store_part 72
     case ho => exact rfl
     case hx => exact rfl
     case hy => exact rfl
     case hg => exact Z0
     case hle => simp
     case hi => kernel_rfl
     case h1 => kernel_rfl
     intro w2 g2 X2
     refine hK.out _ _ (Ext.of_grown g2 (fun j h => by injection h with h; rw [← h]; exact Nat.le_refl _)) ?_
     clear hK K
     refine rg_done (by kernel_rfl) ?_
     --TAIL
     go_wp2_with fail
     go_meet
     exact ⟨w1.heap.size, rfl, Nat.le_refl _, X2, below_grown bz g2 bz.size (Nat.le_refl _)⟩
  case rest =>
   obtain ⟨gx, rfl, hgx, X2, q2⟩ := hcut
   rename World => w2
   have P2 : RCB w2 g c vf (.slice A n k) := below_at q2 P1 (heap_lt P1)
   have F2 := F1.below q2
   have e2 := (e1.trans (Ext.below_all _ q2)).more (M' := fun j => j = g ∨ w.heap.size ≤ j) (fun _ h => .inl h)
   have hgw : w.heap.size ≤ gx := Nat.le_trans HSZ.out hgx
   have hfx : (Value.slice A n k).ownBlock ≠ some gx := fun e => by have := HFO.out _ e; omega
   have hH2 : H ≤ w2.heap.size := by have := q2.size; omega
   have c0 : w2.cell? ⟨bb, o, none⟩ = some (.string (str sTcp)) := (World.cell?_of_block (w := w1) (a := ⟨bb, o, none⟩) (q2.block bb hbl)).trans HC2.out.1
   have c2 : w2.cell? ⟨bb, o + 2, none⟩ = some (.string (str p2)) := (World.cell?_of_block (w := w1) (a := ⟨bb, o + 2, none⟩) (q2.block bb hbl)).trans HC2.out.2
   have hgx2 : gx ≠ g := by have := heap_lt P1; omega
   have hbx : bb ≠ gx := by omega
   have hbl2 : bb < w2.heap.size := by have := q2.size; omega
   clear P1 F1 q2 e1 HC2 HC3 hbl hH1 hp1 hp3 hgx
   go_upto_region 45 with ((with_reducible apply at_store_one 3); (case hx => exact rfl); (case hy => exact rfl); (case hg => exact X2); (case hle => simp); (case hv => rfl); (case hi => kernel_rfl); (case h1 => rfl); (intro w3 g3 X3; replace X3 := Lib.hid X3))
   have X4 : w3.heap[gx]? = some (.cells (opC ⟨6, po, ⟨0, 0, 0, 0⟩, tp⟩) 72 (0, 0)) := X3.out
   have P4 : RCB w3 g c vf (.slice A n k) := grown_at g3 P2 (Ne.symm hgx2)
   have F4 := F2.kept g3 (.inr hfx)
   have e4 := e2.trans (Ext.of_grown (M := fun j => j = g ∨ w.heap.size ≤ j) g3 (fun j h => by injection h with h; omega))
   have hH4 : H ≤ w3.heap.size := by have := g3.size; omega
   have c4 : w3.cell? ⟨bb, o + 2, none⟩ = some (.string (str p2)) := (World.cell?_of_block (w := w2) (a := ⟨bb, o + 2, none⟩) (g3.block bb hbl2 (by intro e; injection e with e; exact hbx e))).trans c2

   clear X2 P2 F2 e2 c2 c0 hH2 hbl2 hbx X3 g3
   go_wp2_with fail
   refine (hp2 w3).mono ?_
   rintro e w5 ⟨rfl, q5⟩
   have P5 : RCB w5 g c vf (.slice A n k) := below_at q5 P4 (heap_lt P4)
   have F5 := F4.below q5
   have X5 := below_at q5 X4 (heap_lt X4)
   have e5 := e4.trans (Ext.below_all _ q5)
   have hH5 : H ≤ w5.heap.size := by have := q5.size; omega
   clear P4 F4 X4 e4 hH4 q5 c4 hp2
   go_upto_region 46 with ((with_reducible apply at_store_new 24); (case hx => exact rfl); (case hy => exact rfl); (case hg => first | rfl | simp); (case hi => kernel_rfl); (case hold => rfl); (case h1 => kernel_rfl))
   have q6 : Below w5.heap.size w5 (w5.alloc (.cells (adC x) 24)) := (Below.refl _ w5).alloc (Nat.le_refl _) _
   have P6 : RCB (w5.alloc (.cells (adC x) 24)) g c vf (.slice A n k) := below_at q6 P5 (heap_lt P5)
   have F6 := F5.below q6
   have X6 := below_at q6 X5 (heap_lt X5)
   have A6 := heap_alloc_new w5 (.cells (adC x) 24)
   have e6 := e5.trans (Ext.below_all _ q6)
   have hH6 : H ≤ (w5.alloc (.cells (adC x) 24)).heap.size := by have := q6.size; omega
   generalize w5.alloc (.cells (adC x) 24) = w6 at P6 F6 X6 A6 e6 hH6 ⊢
   clear P5 F5 X5 e5 hH5 q6
   go_upto_region 47 with (first | ((with_reducible apply at_load_row 24); (case hx => exact rfl); (case hg => exact A6); (case hu => exact Tryz.underlying24); (case hd => rfl); (case hi => kernel_rfl)) | ((with_reducible apply at_store_part 24); (case hx => exact rfl); (case hy => exact rfl); (case hg => exact X6); (case hle => simp); (case hi => kernel_rfl); (case h1 => kernel_rfl); (intro w7 g7 X7; replace X7 := Lib.hid X7)))
   dsimp only [Act.put]
   have X8 : w7.heap[gx]? = some (.cells (opC ⟨6, po, x, tp⟩) 72 (0, 0)) := X7.out
   have P8 : RCB w7 g c vf (.slice A n k) := grown_at g7 P6 (Ne.symm hgx2)
   have F8 := F6.kept g7 (.inr hfx)
   have e8 := e6.trans (Ext.of_grown (M := fun j => j = g ∨ w.heap.size ≤ j) g7 (fun j h => by injection h with h; omega))
   have hH8 : H ≤ w7.heap.size := by have := g7.size; omega
   obtain ⟨B, hB⟩ : ∃ B, w7.heap.size = B := ⟨_, rfl⟩
   have hgxB : gx < B := by have := heap_lt X8; omega
   have hgB : g < B := by have := heap_lt P8; omega
   have HWB := Lib.hid (show w.heap.size ≤ B by have := e8.size; omega)
   have HHB := Lib.hid (show H ≤ B by omega)
   have HX8 := Lib.hid X8
   have HE8 := Lib.hid e8
   clear P6 F6 X6 A6 e6 hH6 X7 g7 hfx hgw e8 hH8
   have P : RCB w7.drew g c vf (.slice A n k) := P8
   have F : RPO w7.drew H A n k lo := F8.below (Below.refl _ _).drew
   have KX := Ext.at_ (w := w7.drew) (M := fun j => j = g ∨ B ≤ j) HX8.out (by omega)
   have hB2 : B ≤ w7.drew.heap.size := by rw [← hB]; exact Nat.le_refl _
   refine rg_begin (fun j => j = g ∨ B ≤ j) (by kernel_rfl) ?_
   obtain ⟨wn, hwn⟩ : ∃ y, y = w7.drew := ⟨_, rfl⟩
   rw [← hwn] at P F KX hB2 ⊢
   have e6 : Ext (fun j => j = g ∨ B ≤ j) w7 wn := by rw [hwn]; exact (Ext.refl _ _).drew
   clear hwn P8 F8 hB X8
   have kA := (cells_of P).1 39
   refine rg_take (v := ?_) 0 rfl (by kernel_rfl) (by kernel_rfl) (by kernel_rfl) (fun _ _ _ h => h) (by rfl) ?_ ?_; rotate_left
   · (intro x hx; go_simp; first | done | with_reducible rfl | (rw [if_pos (by omega)]; try with_reducible rfl) | (rw [if_neg (by omega)]; try with_reducible rfl))
   try simp only [Act.put, List.setIfInBounds_toArray, List.set_cons_zero, List.set_cons_succ]
   refine rg_take (v := ?_) 2 rfl (by kernel_rfl) (by kernel_rfl) (by kernel_rfl) (fun _ _ _ h => h) (by rfl) ?_ ?_; rotate_left
   · (intro x hx; go_simp; first | done | with_reducible rfl | (rw [if_pos (by omega)]; try with_reducible rfl) | (rw [if_neg (by omega)]; try with_reducible rfl))
   try simp only [Act.put, List.setIfInBounds_toArray, List.set_cons_zero, List.set_cons_succ]
   refine rg_take (v := ?_) 3 rfl (by kernel_rfl) (by kernel_rfl) (by kernel_rfl) (fun _ _ _ h => h) (by rfl) ?_ ?_; rotate_left
   · (intro x hx; go_simp; first | done | with_reducible rfl | (rw [if_pos (by omega)]; try with_reducible rfl) | (rw [if_neg (by omega)]; try with_reducible rfl))
   try simp only [Act.put, List.setIfInBounds_toArray, List.set_cons_zero, List.set_cons_succ]
   refine rg_take (v := ?_) 4 rfl (by kernel_rfl) (by kernel_rfl) (by kernel_rfl) (fun _ _ _ h => h) (by rfl) ?_ ?_; rotate_left
   · (intro x hx; go_simp; first | done | with_reducible rfl | (rw [if_pos (by omega)]; try with_reducible rfl) | (rw [if_neg (by omega)]; try with_reducible rfl))
   try simp only [Act.put, List.setIfInBounds_toArray, List.set_cons_zero, List.set_cons_succ]
   refine rg_take (v := .agg (opC ⟨6, po, x, tp⟩)) 7 rfl (by kernel_rfl) (by kernel_rfl) (by kernel_rfl) (fun _ _ _ h => h) (by rfl) ?_ ?_
   · (intro x hx; apply run_load_big; (case ho => exact rfl); (case hv => exact rfl); (case hg => exact KX x hx); (case hu => exact Tryz.underlying72); (case hd => rfl); (case hi => kernel_rfl))
   try simp only [Act.put, List.setIfInBounds_toArray, List.set_cons_zero, List.set_cons_succ]
   refine rg_three 1 5 8 rfl rfl rfl (by kernel_rfl) (by rfl) (by rfl) (by rfl) (fun K hK => ?_) (fun K hK => ?_) (fun K hK => ?_)
   · go_simp
     have q : Below wn.heap.size wn (wn.alloc (.cells #[] 72)) := (Below.refl _ _).alloc (Nat.le_refl _) _
     have E : TO (wn.alloc (.cells #[] 72)) B 72 7 (some ⟨wn.heap.size, 0, none⟩) 0 0 0 [] := ⟨rfl, World.ownsRow_lit wn #[] 0 hB2 (by unfold maxLen; omega) rfl⟩
     replace P := below_at q P (heap_lt P)
     replace F := F.below q
     replace e6 := e6.trans (Ext.below_all _ q)
     replace hB2 := Nat.le_trans hB2 q.size
     refine hK.out _ _ (Ext.below_all _ q) ?_
     obtain ⟨g0, hg0⟩ : ∃ y, wn.heap.size = y := ⟨_, rfl⟩
     try have hRE := old_ne (n := 0) (c := 0) hg0 R
     try replace R := below_at q R (heap_lt R)
     rw [hg0] at E ⊢
     clear q hg0 kA
     first | (generalize wn.alloc (.cells #[] 72) = wn at P F E R e6 hB2 ⊢) | (generalize wn.alloc (.cells #[] 72) = wn at P F E e6 hB2 ⊢)
     have kA := (cells_of P).1 39
     clear hK K; try simp only [Act.put, List.setIfInBounds_toArray, List.set_cons_zero, List.set_cons_succ]
     refine rg_two 5 8 rfl rfl (by kernel_rfl) (by rfl) (by rfl) (fun K hK => ?_) (fun K hK => ?_)
     · go_simp
       refine hK.out _ _ (Ext.refl _ _) ?_
       clear hK K; try simp only [Act.put, List.setIfInBounds_toArray, List.set_cons_zero, List.set_cons_succ]
       refine rg_two 6 8 rfl rfl (by kernel_rfl) (by rfl) (by rfl) (fun K hK => ?_) (fun K hK => ?_)
       · refine wp_appN _ _ 38 72 7 32 _ Tryz.underlying38 infoROp rfl (by omega) (by omega) rfl B _ _ _ _ _ rfl E H _ _ _ _ _ rfl F (opL_one lo) (by omega) hB2 ?_
         intro A2 k2 wn E2 b3 g3
         replace P := (b3.block g hgB).trans P
         have x3 := Ext.of_grown (M := fun j => j = g ∨ B ≤ j) g3 (fun j hj => .inr (E.lt j hj).1)
         try replace R := (g3.block _ (heap_lt R) hRE).trans R
         replace e6 := e6.trans x3
         replace hB2 := Nat.le_trans hB2 b3.size
         replace E := E2
         refine hK.out _ _ x3 ?_
         obtain ⟨n', hn'⟩ : ∃ y, 0 + n = y := ⟨_, rfl⟩
         rw [hn'] at E ⊢
         clear hn'
         simp only [Nat.zero_add, List.nil_append] at E
         clear x3 g3 b3 E2 kA F
         clear hK K; try simp only [Act.put, List.setIfInBounds_toArray, List.set_cons_zero, List.set_cons_succ]
         refine rg_step 8 rfl (by kernel_rfl) (by rfl) (fun K hK => ?_)
         go_simp
         have q : Below wn.heap.size wn (wn.alloc (.cells (opC ⟨6, po, x, tp⟩) 72)) := (Below.refl _ _).alloc (Nat.le_refl _) _
         have R := heap_alloc_new wn (.cells (opC ⟨6, po, x, tp⟩) 72)
         replace P := below_at q P (heap_lt P)
         try replace F := F.below q
         replace e6 := e6.trans (Ext.below_all _ q)
         replace hB2 := Nat.le_trans hB2 q.size
         refine hK.out _ _ (Ext.below_all _ q) ?_
         obtain ⟨g1, hg1⟩ : ∃ y, wn.heap.size = y := ⟨_, rfl⟩
         try have hRE := E.new (Nat.le_of_eq hg1)
         try replace E := E.below q
         rw [hg1] at R ⊢
         clear q hg1
         try clear kA
         first | (generalize wn.alloc (.cells (opC ⟨6, po, x, tp⟩) 72) = wn at P F E R e6 hB2 ⊢) | (generalize wn.alloc (.cells (opC ⟨6, po, x, tp⟩) 72) = wn at P F R e6 hB2 ⊢) | (generalize wn.alloc (.cells (opC ⟨6, po, x, tp⟩) 72) = wn at P E R e6 hB2 ⊢)
         have kA := (cells_of P).1 39
         clear hK K; try simp only [Act.put, List.setIfInBounds_toArray, List.set_cons_zero, List.set_cons_succ]
         refine rg_step 9 rfl (by kernel_rfl) (by rfl) (fun K hK => ?_)
         refine wp_appT _ _ 38 72 7 32 _ Tryz.underlying38 infoROp rfl (by omega) (by omega) rfl B _ _ _ _ _ rfl E _ _ rfl (opC ⟨6, po, x, tp⟩) rfl R (by simp [Value.oneCell']) (by omega) hB2 ?_
         intro A3 k3 wn E3 b3 g3
         replace P := (b3.block g hgB).trans P
         have x3 := Ext.of_grown (M := fun j => j = g ∨ B ≤ j) g3 (fun j hj => .inr (E.lt j hj).1)
         replace e6 := e6.trans x3
         replace E := E3
         refine hK.out _ _ x3 ?_
         clear x3 g3 b3 E3
         try clear kA
         clear hK K; try simp only [Act.put, List.setIfInBounds_toArray, List.set_cons_zero, List.set_cons_succ]
         refine rg_take (v := ?_) 10 rfl (by kernel_rfl) (by kernel_rfl) (by kernel_rfl) (fun _ _ _ h => h) (by rfl) ?_ ?_; rotate_left
         · (intro x hx; go_simp; first | done | with_reducible rfl | (rw [if_pos (by omega)]; try with_reducible rfl) | (rw [if_neg (by omega)]; try with_reducible rfl))
         try simp only [Act.put, List.setIfInBounds_toArray, List.set_cons_zero, List.set_cons_succ]
         refine rg_take (v := ?_) 11 rfl (by kernel_rfl) (by kernel_rfl) (by kernel_rfl) (fun _ _ _ h => h) (by rfl) ?_ ?_; rotate_left
         · (intro x hx; go_simp; first | done | with_reducible rfl | (rw [if_pos (by omega)]; try with_reducible rfl) | (rw [if_neg (by omega)]; try with_reducible rfl))
         try simp only [Act.put, List.setIfInBounds_toArray, List.set_cons_zero, List.set_cons_succ]
         refine rg_step 12 rfl (by kernel_rfl) (by rfl) (fun K hK => ?_)
         --RAW
         apply wp_store_one 38
         case ho => exact rfl
         case hx => exact rfl
         case hy => exact rfl
         case hg => exact P
         case hle => simp
         case hv => rfl
         case hi => kernel_rfl
         case h1 => rfl
         intro wn g5 P5
         have x5 := Ext.of_grown (M := fun j => j = g ∨ B ≤ j) g5 (fun j h => by injection h with h; exact .inl h.symm)
         replace e6 := e6.trans x5
         replace E := E.kept g5 (E.ne P (by decide))
         refine hK.out _ _ x5 ?_
         clear hK K
         refine rg_done (by kernel_rfl) ?_
         --TAIL
         replace E := rpo_end HHB.out E
         have X9 := (e6.block gx (heap_lt HX8.out) (by omega)).trans HX8.out
         have x9 := (cells_of X9).1
         have e10 : Ext (fun j => j = g) w wn := (HE8.out.trans (e6.more (M' := fun j => j = g ∨ w.heap.size ≤ j) (fun j h => h.imp id (Nat.le_trans HWB.out)))).old (Nat.le_refl _)
         clear P g5 x5 hB2 KX X9 e6
         rcases b with _ | _
         · go_wp2_with fail
           go_ret
           exact ⟨A3, _, k3, rfl, P5, E, e10⟩
         · rcases d1 : decide (0 ≤ po) with _ | _
           all_goals
             have HD1 := Lib.hid d1
             go_wp2_with fail
             go_ret
             exact ⟨A3, _, k3, by first | rfl | (rw [HD1.out]; rfl), P5, E, e10⟩
       · go_simp
         have q : Below wn.heap.size wn (wn.alloc (.cells (opC ⟨6, po, x, tp⟩) 72)) := (Below.refl _ _).alloc (Nat.le_refl _) _
         have R := heap_alloc_new wn (.cells (opC ⟨6, po, x, tp⟩) 72)
         replace P := below_at q P (heap_lt P)
         try replace F := F.below q
         replace e6 := e6.trans (Ext.below_all _ q)
         replace hB2 := Nat.le_trans hB2 q.size
         refine hK.out _ _ (Ext.below_all _ q) ?_
         obtain ⟨g1, hg1⟩ : ∃ y, wn.heap.size = y := ⟨_, rfl⟩
         try have hRE := E.new (Nat.le_of_eq hg1)
         try replace E := E.below q
         rw [hg1] at R ⊢
         clear q hg1
         try clear kA
         first | (generalize wn.alloc (.cells (opC ⟨6, po, x, tp⟩) 72) = wn at P F E R e6 hB2 ⊢) | (generalize wn.alloc (.cells (opC ⟨6, po, x, tp⟩) 72) = wn at P F R e6 hB2 ⊢) | (generalize wn.alloc (.cells (opC ⟨6, po, x, tp⟩) 72) = wn at P E R e6 hB2 ⊢)
         have kA := (cells_of P).1 39
         clear hK K; try simp only [Act.put, List.setIfInBounds_toArray, List.set_cons_zero, List.set_cons_succ]
         refine rg_step 6 rfl (by kernel_rfl) (by rfl) (fun K hK => ?_)
         refine wp_appN _ _ 38 72 7 32 _ Tryz.underlying38 infoROp rfl (by omega) (by omega) rfl B _ _ _ _ _ rfl E H _ _ _ _ _ rfl F (opL_one lo) (by omega) hB2 ?_
         intro A2 k2 wn E2 b3 g3
         replace P := (b3.block g hgB).trans P
         have x3 := Ext.of_grown (M := fun j => j = g ∨ B ≤ j) g3 (fun j hj => .inr (E.lt j hj).1)
         try replace R := (g3.block _ (heap_lt R) hRE).trans R
         replace e6 := e6.trans x3
         replace hB2 := Nat.le_trans hB2 b3.size
         replace E := E2
         refine hK.out _ _ x3 ?_
         obtain ⟨n', hn'⟩ : ∃ y, 0 + n = y := ⟨_, rfl⟩
         rw [hn'] at E ⊢
         clear hn'
         simp only [Nat.zero_add, List.nil_append] at E
         clear x3 g3 b3 E2 kA F
         clear hK K; try simp only [Act.put, List.setIfInBounds_toArray, List.set_cons_zero, List.set_cons_succ]
         refine rg_step 9 rfl (by kernel_rfl) (by rfl) (fun K hK => ?_)
         refine wp_appT _ _ 38 72 7 32 _ Tryz.underlying38 infoROp rfl (by omega) (by omega) rfl B _ _ _ _ _ rfl E _ _ rfl (opC ⟨6, po, x, tp⟩) rfl R (by simp [Value.oneCell']) (by omega) hB2 ?_
         intro A3 k3 wn E3 b3 g3
         replace P := (b3.block g hgB).trans P
         have x3 := Ext.of_grown (M := fun j => j = g ∨ B ≤ j) g3 (fun j hj => .inr (E.lt j hj).1)
         replace e6 := e6.trans x3
         replace E := E3
         refine hK.out _ _ x3 ?_
         clear x3 g3 b3 E3
         try clear kA
         clear hK K; try simp only [Act.put, List.setIfInBounds_toArray, List.set_cons_zero, List.set_cons_succ]
         refine rg_take (v := ?_) 10 rfl (by kernel_rfl) (by kernel_rfl) (by kernel_rfl) (fun _ _ _ h => h) (by rfl) ?_ ?_; rotate_left
         · (intro x hx; go_simp; first | done | with_reducible rfl | (rw [if_pos (by omega)]; try with_reducible rfl) | (rw [if_neg (by omega)]; try with_reducible rfl))
         try simp only [Act.put, List.setIfInBounds_toArray, List.set_cons_zero, List.set_cons_succ]
         refine rg_take (v := ?_) 11 rfl (by kernel_rfl) (by kernel_rfl) (by kernel_rfl) (fun _ _ _ h => h) (by rfl) ?_ ?_; rotate_left
         · (intro x hx; go_simp; first | done | with_reducible rfl | (rw [if_pos (by omega)]; try with_reducible rfl) | (rw [if_neg (by omega)]; try with_reducible rfl))
         try simp only [Act.put, List.setIfInBounds_toArray, List.set_cons_zero, List.set_cons_succ]
         refine rg_step 12 rfl (by kernel_rfl) (by rfl) (fun K hK => ?_)
         --RAW
         apply wp_store_one 38
         case ho => exact rfl
         case hx => exact rfl
         case hy => exact rfl
         case hg => exact P
         case hle => simp
         case hv => rfl
         case hi => kernel_rfl
         case h1 => rfl
         intro wn g5 P5
         have x5 := Ext.of_grown (M := fun j => j = g ∨ B ≤ j) g5 (fun j h => by injection h with h; exact .inl h.symm)
         replace e6 := e6.trans x5
         replace E := E.kept g5 (E.ne P (by decide))
         refine hK.out _ _ x5 ?_
         clear hK K
         refine rg_done (by kernel_rfl) ?_
         --TAIL
         replace E := rpo_end HHB.out E
         have X9 := (e6.block gx (heap_lt HX8.out) (by omega)).trans HX8.out
         have x9 := (cells_of X9).1
         have e10 : Ext (fun j => j = g) w wn := (HE8.out.trans (e6.more (M' := fun j => j = g ∨ w.heap.size ≤ j) (fun j h => h.imp id (Nat.le_trans HWB.out)))).old (Nat.le_refl _)
         clear P g5 x5 hB2 KX X9 e6
         rcases b with _ | _
         · go_wp2_with fail
           go_ret
           exact ⟨A3, _, k3, rfl, P5, E, e10⟩
         · rcases d1 : decide (0 ≤ po) with _ | _
           all_goals
             have HD1 := Lib.hid d1
             go_wp2_with fail
             go_ret
             exact ⟨A3, _, k3, by first | rfl | (rw [HD1.out]; rfl), P5, E, e10⟩
     · go_simp
       have q : Below wn.heap.size wn (wn.alloc (.cells (opC ⟨6, po, x, tp⟩) 72)) := (Below.refl _ _).alloc (Nat.le_refl _) _
       have R := heap_alloc_new wn (.cells (opC ⟨6, po, x, tp⟩) 72)
       replace P := below_at q P (heap_lt P)
       try replace F := F.below q
       replace e6 := e6.trans (Ext.below_all _ q)
       replace hB2 := Nat.le_trans hB2 q.size
       refine hK.out _ _ (Ext.below_all _ q) ?_
       obtain ⟨g1, hg1⟩ : ∃ y, wn.heap.size = y := ⟨_, rfl⟩
       try have hRE := E.new (Nat.le_of_eq hg1)
       try replace E := E.below q
       rw [hg1] at R ⊢
       clear q hg1
       try clear kA
       first | (generalize wn.alloc (.cells (opC ⟨6, po, x, tp⟩) 72) = wn at P F E R e6 hB2 ⊢) | (generalize wn.alloc (.cells (opC ⟨6, po, x, tp⟩) 72) = wn at P F R e6 hB2 ⊢) | (generalize wn.alloc (.cells (opC ⟨6, po, x, tp⟩) 72) = wn at P E R e6 hB2 ⊢)
       have kA := (cells_of P).1 39
       clear hK K; try simp only [Act.put, List.setIfInBounds_toArray, List.set_cons_zero, List.set_cons_succ]
       refine rg_step 5 rfl (by kernel_rfl) (by rfl) (fun K hK => ?_)
       go_simp
       refine hK.out _ _ (Ext.refl _ _) ?_
       clear hK K; try simp only [Act.put, List.setIfInBounds_toArray, List.set_cons_zero, List.set_cons_succ]
       refine rg_step 6 rfl (by kernel_rfl) (by rfl) (fun K hK => ?_)
       refine wp_appN _ _ 38 72 7 32 _ Tryz.underlying38 infoROp rfl (by omega) (by omega) rfl B _ _ _ _ _ rfl E H _ _ _ _ _ rfl F (opL_one lo) (by omega) hB2 ?_
       intro A2 k2 wn E2 b3 g3
       replace P := (b3.block g hgB).trans P
       have x3 := Ext.of_grown (M := fun j => j = g ∨ B ≤ j) g3 (fun j hj => .inr (E.lt j hj).1)
       try replace R := (g3.block _ (heap_lt R) hRE).trans R
       replace e6 := e6.trans x3
       replace hB2 := Nat.le_trans hB2 b3.size
       replace E := E2
       refine hK.out _ _ x3 ?_
       obtain ⟨n', hn'⟩ : ∃ y, 0 + n = y := ⟨_, rfl⟩
       rw [hn'] at E ⊢
       clear hn'
       simp only [Nat.zero_add, List.nil_append] at E
       clear x3 g3 b3 E2 kA F
       clear hK K; try simp only [Act.put, List.setIfInBounds_toArray, List.set_cons_zero, List.set_cons_succ]
       refine rg_step 9 rfl (by kernel_rfl) (by rfl) (fun K hK => ?_)
       refine wp_appT _ _ 38 72 7 32 _ Tryz.underlying38 infoROp rfl (by omega) (by omega) rfl B _ _ _ _ _ rfl E _ _ rfl (opC ⟨6, po, x, tp⟩) rfl R (by simp [Value.oneCell']) (by omega) hB2 ?_
       intro A3 k3 wn E3 b3 g3
       replace P := (b3.block g hgB).trans P
       have x3 := Ext.of_grown (M := fun j => j = g ∨ B ≤ j) g3 (fun j hj => .inr (E.lt j hj).1)
       replace e6 := e6.trans x3
       replace E := E3
       refine hK.out _ _ x3 ?_
       clear x3 g3 b3 E3
       try clear kA
       clear hK K; try simp only [Act.put, List.setIfInBounds_toArray, List.set_cons_zero, List.set_cons_succ]
       refine rg_take (v := ?_) 10 rfl (by kernel_rfl) (by kernel_rfl) (by kernel_rfl) (fun _ _ _ h => h) (by rfl) ?_ ?_; rotate_left
       · (intro x hx; go_simp; first | done | with_reducible rfl | (rw [if_pos (by omega)]; try with_reducible rfl) | (rw [if_neg (by omega)]; try with_reducible rfl))
       try simp only [Act.put, List.setIfInBounds_toArray, List.set_cons_zero, List.set_cons_succ]
       refine rg_take (v := ?_) 11 rfl (by kernel_rfl) (by kernel_rfl) (by kernel_rfl) (fun _ _ _ h => h) (by rfl) ?_ ?_; rotate_left
       · (intro x hx; go_simp; first | done | with_reducible rfl | (rw [if_pos (by omega)]; try with_reducible rfl) | (rw [if_neg (by omega)]; try with_reducible rfl))
       try simp only [Act.put, List.setIfInBounds_toArray, List.set_cons_zero, List.set_cons_succ]
       refine rg_step 12 rfl (by kernel_rfl) (by rfl) (fun K hK => ?_)
       --RAW
       apply wp_store_one 38
       case ho => exact rfl
       case hx => exact rfl
       case hy => exact rfl
       case hg => exact P
       case hle => simp
       case hv => rfl
       case hi => kernel_rfl
       case h1 => rfl
       intro wn g5 P5
       have x5 := Ext.of_grown (M := fun j => j = g ∨ B ≤ j) g5 (fun j h => by injection h with h; exact .inl h.symm)
       replace e6 := e6.trans x5
       replace E := E.kept g5 (E.ne P (by decide))
       refine hK.out _ _ x5 ?_
       clear hK K
       refine rg_done (by kernel_rfl) ?_
       --TAIL
       replace E := rpo_end HHB.out E
       have X9 := (e6.block gx (heap_lt HX8.out) (by omega)).trans HX8.out
       have x9 := (cells_of X9).1
       have e10 : Ext (fun j => j = g) w wn := (HE8.out.trans (e6.more (M' := fun j => j = g ∨ w.heap.size ≤ j) (fun j h => h.imp id (Nat.le_trans HWB.out)))).old (Nat.le_refl _)
       clear P g5 x5 hB2 KX X9 e6
       rcases b with _ | _
       · go_wp2_with fail
         go_ret
         exact ⟨A3, _, k3, rfl, P5, E, e10⟩
       · rcases d1 : decide (0 ≤ po) with _ | _
         all_goals
           have HD1 := Lib.hid d1
           go_wp2_with fail
           go_ret
           exact ⟨A3, _, k3, by first | rfl | (rw [HD1.out]; rfl), P5, E, e10⟩
   · go_simp
     refine hK.out _ _ (Ext.refl _ _) ?_
     clear hK K; try simp only [Act.put, List.setIfInBounds_toArray, List.set_cons_zero, List.set_cons_succ]
     refine rg_two 1 8 rfl rfl (by kernel_rfl) (by rfl) (by rfl) (fun K hK => ?_) (fun K hK => ?_)
     · go_simp
       have q : Below wn.heap.size wn (wn.alloc (.cells #[] 72)) := (Below.refl _ _).alloc (Nat.le_refl _) _
       have E : TO (wn.alloc (.cells #[] 72)) B 72 7 (some ⟨wn.heap.size, 0, none⟩) 0 0 0 [] := ⟨rfl, World.ownsRow_lit wn #[] 0 hB2 (by unfold maxLen; omega) rfl⟩
       replace P := below_at q P (heap_lt P)
       replace F := F.below q
       replace e6 := e6.trans (Ext.below_all _ q)
       replace hB2 := Nat.le_trans hB2 q.size
       refine hK.out _ _ (Ext.below_all _ q) ?_
       obtain ⟨g0, hg0⟩ : ∃ y, wn.heap.size = y := ⟨_, rfl⟩
       try have hRE := old_ne (n := 0) (c := 0) hg0 R
       try replace R := below_at q R (heap_lt R)
       rw [hg0] at E ⊢
       clear q hg0 kA
       first | (generalize wn.alloc (.cells #[] 72) = wn at P F E R e6 hB2 ⊢) | (generalize wn.alloc (.cells #[] 72) = wn at P F E e6 hB2 ⊢)
       have kA := (cells_of P).1 39
       clear hK K; try simp only [Act.put, List.setIfInBounds_toArray, List.set_cons_zero, List.set_cons_succ]
       refine rg_two 6 8 rfl rfl (by kernel_rfl) (by rfl) (by rfl) (fun K hK => ?_) (fun K hK => ?_)
       · refine wp_appN _ _ 38 72 7 32 _ Tryz.underlying38 infoROp rfl (by omega) (by omega) rfl B _ _ _ _ _ rfl E H _ _ _ _ _ rfl F (opL_one lo) (by omega) hB2 ?_
         intro A2 k2 wn E2 b3 g3
         replace P := (b3.block g hgB).trans P
         have x3 := Ext.of_grown (M := fun j => j = g ∨ B ≤ j) g3 (fun j hj => .inr (E.lt j hj).1)
         try replace R := (g3.block _ (heap_lt R) hRE).trans R
         replace e6 := e6.trans x3
         replace hB2 := Nat.le_trans hB2 b3.size
         replace E := E2
         refine hK.out _ _ x3 ?_
         obtain ⟨n', hn'⟩ : ∃ y, 0 + n = y := ⟨_, rfl⟩
         rw [hn'] at E ⊢
         clear hn'
         simp only [Nat.zero_add, List.nil_append] at E
         clear x3 g3 b3 E2 kA F
         clear hK K; try simp only [Act.put, List.setIfInBounds_toArray, List.set_cons_zero, List.set_cons_succ]
         refine rg_step 8 rfl (by kernel_rfl) (by rfl) (fun K hK => ?_)
         go_simp
         have q : Below wn.heap.size wn (wn.alloc (.cells (opC ⟨6, po, x, tp⟩) 72)) := (Below.refl _ _).alloc (Nat.le_refl _) _
         have R := heap_alloc_new wn (.cells (opC ⟨6, po, x, tp⟩) 72)
         replace P := below_at q P (heap_lt P)
         try replace F := F.below q
         replace e6 := e6.trans (Ext.below_all _ q)
         replace hB2 := Nat.le_trans hB2 q.size
         refine hK.out _ _ (Ext.below_all _ q) ?_
         obtain ⟨g1, hg1⟩ : ∃ y, wn.heap.size = y := ⟨_, rfl⟩
         try have hRE := E.new (Nat.le_of_eq hg1)
         try replace E := E.below q
         rw [hg1] at R ⊢
         clear q hg1
         try clear kA
         first | (generalize wn.alloc (.cells (opC ⟨6, po, x, tp⟩) 72) = wn at P F E R e6 hB2 ⊢) | (generalize wn.alloc (.cells (opC ⟨6, po, x, tp⟩) 72) = wn at P F R e6 hB2 ⊢) | (generalize wn.alloc (.cells (opC ⟨6, po, x, tp⟩) 72) = wn at P E R e6 hB2 ⊢)
         have kA := (cells_of P).1 39
         clear hK K; try simp only [Act.put, List.setIfInBounds_toArray, List.set_cons_zero, List.set_cons_succ]
         refine rg_step 9 rfl (by kernel_rfl) (by rfl) (fun K hK => ?_)
         refine wp_appT _ _ 38 72 7 32 _ Tryz.underlying38 infoROp rfl (by omega) (by omega) rfl B _ _ _ _ _ rfl E _ _ rfl (opC ⟨6, po, x, tp⟩) rfl R (by simp [Value.oneCell']) (by omega) hB2 ?_
         intro A3 k3 wn E3 b3 g3
         replace P := (b3.block g hgB).trans P
         have x3 := Ext.of_grown (M := fun j => j = g ∨ B ≤ j) g3 (fun j hj => .inr (E.lt j hj).1)
         replace e6 := e6.trans x3
         replace E := E3
         refine hK.out _ _ x3 ?_
         clear x3 g3 b3 E3
         try clear kA
         clear hK K; try simp only [Act.put, List.setIfInBounds_toArray, List.set_cons_zero, List.set_cons_succ]
         refine rg_take (v := ?_) 10 rfl (by kernel_rfl) (by kernel_rfl) (by kernel_rfl) (fun _ _ _ h => h) (by rfl) ?_ ?_; rotate_left
         · (intro x hx; go_simp; first | done | with_reducible rfl | (rw [if_pos (by omega)]; try with_reducible rfl) | (rw [if_neg (by omega)]; try with_reducible rfl))
         try simp only [Act.put, List.setIfInBounds_toArray, List.set_cons_zero, List.set_cons_succ]
         refine rg_take (v := ?_) 11 rfl (by kernel_rfl) (by kernel_rfl) (by kernel_rfl) (fun _ _ _ h => h) (by rfl) ?_ ?_; rotate_left
         · (intro x hx; go_simp; first | done | with_reducible rfl | (rw [if_pos (by omega)]; try with_reducible rfl) | (rw [if_neg (by omega)]; try with_reducible rfl))
         try simp only [Act.put, List.setIfInBounds_toArray, List.set_cons_zero, List.set_cons_succ]
         refine rg_step 12 rfl (by kernel_rfl) (by rfl) (fun K hK => ?_)
         --RAW
         apply wp_store_one 38
         case ho => exact rfl
         case hx => exact rfl
         case hy => exact rfl
         case hg => exact P
         case hle => simp
         case hv => rfl
         case hi => kernel_rfl
         case h1 => rfl
         intro wn g5 P5
         have x5 := Ext.of_grown (M := fun j => j = g ∨ B ≤ j) g5 (fun j h => by injection h with h; exact .inl h.symm)
         replace e6 := e6.trans x5
         replace E := E.kept g5 (E.ne P (by decide))
         refine hK.out _ _ x5 ?_
         clear hK K
         refine rg_done (by kernel_rfl) ?_
         --TAIL
         replace E := rpo_end HHB.out E
         have X9 := (e6.block gx (heap_lt HX8.out) (by omega)).trans HX8.out
         have x9 := (cells_of X9).1
         have e10 : Ext (fun j => j = g) w wn := (HE8.out.trans (e6.more (M' := fun j => j = g ∨ w.heap.size ≤ j) (fun j h => h.imp id (Nat.le_trans HWB.out)))).old (Nat.le_refl _)
         clear P g5 x5 hB2 KX X9 e6
         rcases b with _ | _
         · go_wp2_with fail
           go_ret
           exact ⟨A3, _, k3, rfl, P5, E, e10⟩
         · rcases d1 : decide (0 ≤ po) with _ | _
           all_goals
             have HD1 := Lib.hid d1
             go_wp2_with fail
             go_ret
             exact ⟨A3, _, k3, by first | rfl | (rw [HD1.out]; rfl), P5, E, e10⟩
       · go_simp
         have q : Below wn.heap.size wn (wn.alloc (.cells (opC ⟨6, po, x, tp⟩) 72)) := (Below.refl _ _).alloc (Nat.le_refl _) _
         have R := heap_alloc_new wn (.cells (opC ⟨6, po, x, tp⟩) 72)
         replace P := below_at q P (heap_lt P)
         try replace F := F.below q
         replace e6 := e6.trans (Ext.below_all _ q)
         replace hB2 := Nat.le_trans hB2 q.size
         refine hK.out _ _ (Ext.below_all _ q) ?_
         obtain ⟨g1, hg1⟩ : ∃ y, wn.heap.size = y := ⟨_, rfl⟩
         try have hRE := E.new (Nat.le_of_eq hg1)
         try replace E := E.below q
         rw [hg1] at R ⊢
         clear q hg1
         try clear kA
         first | (generalize wn.alloc (.cells (opC ⟨6, po, x, tp⟩) 72) = wn at P F E R e6 hB2 ⊢) | (generalize wn.alloc (.cells (opC ⟨6, po, x, tp⟩) 72) = wn at P F R e6 hB2 ⊢) | (generalize wn.alloc (.cells (opC ⟨6, po, x, tp⟩) 72) = wn at P E R e6 hB2 ⊢)
         have kA := (cells_of P).1 39
         clear hK K; try simp only [Act.put, List.setIfInBounds_toArray, List.set_cons_zero, List.set_cons_succ]
         refine rg_step 6 rfl (by kernel_rfl) (by rfl) (fun K hK => ?_)
         refine wp_appN _ _ 38 72 7 32 _ Tryz.underlying38 infoROp rfl (by omega) (by omega) rfl B _ _ _ _ _ rfl E H _ _ _ _ _ rfl F (opL_one lo) (by omega) hB2 ?_
         intro A2 k2 wn E2 b3 g3
         replace P := (b3.block g hgB).trans P
         have x3 := Ext.of_grown (M := fun j => j = g ∨ B ≤ j) g3 (fun j hj => .inr (E.lt j hj).1)
         try replace R := (g3.block _ (heap_lt R) hRE).trans R
         replace e6 := e6.trans x3
         replace hB2 := Nat.le_trans hB2 b3.size
         replace E := E2
         refine hK.out _ _ x3 ?_
         obtain ⟨n', hn'⟩ : ∃ y, 0 + n = y := ⟨_, rfl⟩
         rw [hn'] at E ⊢
         clear hn'
         simp only [Nat.zero_add, List.nil_append] at E
         clear x3 g3 b3 E2 kA F
         clear hK K; try simp only [Act.put, List.setIfInBounds_toArray, List.set_cons_zero, List.set_cons_succ]
         refine rg_step 9 rfl (by kernel_rfl) (by rfl) (fun K hK => ?_)
         refine wp_appT _ _ 38 72 7 32 _ Tryz.underlying38 infoROp rfl (by omega) (by omega) rfl B _ _ _ _ _ rfl E _ _ rfl (opC ⟨6, po, x, tp⟩) rfl R (by simp [Value.oneCell']) (by omega) hB2 ?_
         intro A3 k3 wn E3 b3 g3
         replace P := (b3.block g hgB).trans P
         have x3 := Ext.of_grown (M := fun j => j = g ∨ B ≤ j) g3 (fun j hj => .inr (E.lt j hj).1)
         replace e6 := e6.trans x3
         replace E := E3
         refine hK.out _ _ x3 ?_
         clear x3 g3 b3 E3
         try clear kA
         clear hK K; try simp only [Act.put, List.setIfInBounds_toArray, List.set_cons_zero, List.set_cons_succ]
         refine rg_take (v := ?_) 10 rfl (by kernel_rfl) (by kernel_rfl) (by kernel_rfl) (fun _ _ _ h => h) (by rfl) ?_ ?_; rotate_left
         · (intro x hx; go_simp; first | done | with_reducible rfl | (rw [if_pos (by omega)]; try with_reducible rfl) | (rw [if_neg (by omega)]; try with_reducible rfl))
         try simp only [Act.put, List.setIfInBounds_toArray, List.set_cons_zero, List.set_cons_succ]
         refine rg_take (v := ?_) 11 rfl (by kernel_rfl) (by kernel_rfl) (by kernel_rfl) (fun _ _ _ h => h) (by rfl) ?_ ?_; rotate_left
         · (intro x hx; go_simp; first | done | with_reducible rfl | (rw [if_pos (by omega)]; try with_reducible rfl) | (rw [if_neg (by omega)]; try with_reducible rfl))
         try simp only [Act.put, List.setIfInBounds_toArray, List.set_cons_zero, List.set_cons_succ]
         refine rg_step 12 rfl (by kernel_rfl) (by rfl) (fun K hK => ?_)
         --RAW
         apply wp_store_one 38
         case ho => exact rfl
         case hx => exact rfl
         case hy => exact rfl
         case hg => exact P
         case hle => simp
         case hv => rfl
         case hi => kernel_rfl
         case h1 => rfl
         intro wn g5 P5
         have x5 := Ext.of_grown (M := fun j => j = g ∨ B ≤ j) g5 (fun j h => by injection h with h; exact .inl h.symm)
         replace e6 := e6.trans x5
         replace E := E.kept g5 (E.ne P (by decide))
         refine hK.out _ _ x5 ?_
         clear hK K
         refine rg_done (by kernel_rfl) ?_
         --TAIL
         replace E := rpo_end HHB.out E
         have X9 := (e6.block gx (heap_lt HX8.out) (by omega)).trans HX8.out
         have x9 := (cells_of X9).1
         have e10 : Ext (fun j => j = g) w wn := (HE8.out.trans (e6.more (M' := fun j => j = g ∨ w.heap.size ≤ j) (fun j h => h.imp id (Nat.le_trans HWB.out)))).old (Nat.le_refl _)
         clear P g5 x5 hB2 KX X9 e6
         rcases b with _ | _
         · go_wp2_with fail
           go_ret
           exact ⟨A3, _, k3, rfl, P5, E, e10⟩
         · rcases d1 : decide (0 ≤ po) with _ | _
           all_goals
             have HD1 := Lib.hid d1
             go_wp2_with fail
             go_ret
             exact ⟨A3, _, k3, by first | rfl | (rw [HD1.out]; rfl), P5, E, e10⟩
     · go_simp
       have q : Below wn.heap.size wn (wn.alloc (.cells (opC ⟨6, po, x, tp⟩) 72)) := (Below.refl _ _).alloc (Nat.le_refl _) _
       have R := heap_alloc_new wn (.cells (opC ⟨6, po, x, tp⟩) 72)
       replace P := below_at q P (heap_lt P)
       try replace F := F.below q
       replace e6 := e6.trans (Ext.below_all _ q)
       replace hB2 := Nat.le_trans hB2 q.size
       refine hK.out _ _ (Ext.below_all _ q) ?_
       obtain ⟨g1, hg1⟩ : ∃ y, wn.heap.size = y := ⟨_, rfl⟩
       try have hRE := E.new (Nat.le_of_eq hg1)
       try replace E := E.below q
       rw [hg1] at R ⊢
       clear q hg1
       try clear kA
       first | (generalize wn.alloc (.cells (opC ⟨6, po, x, tp⟩) 72) = wn at P F E R e6 hB2 ⊢) | (generalize wn.alloc (.cells (opC ⟨6, po, x, tp⟩) 72) = wn at P F R e6 hB2 ⊢) | (generalize wn.alloc (.cells (opC ⟨6, po, x, tp⟩) 72) = wn at P E R e6 hB2 ⊢)
       have kA := (cells_of P).1 39
       clear hK K; try simp only [Act.put, List.setIfInBounds_toArray, List.set_cons_zero, List.set_cons_succ]
       refine rg_step 1 rfl (by kernel_rfl) (by rfl) (fun K hK => ?_)
       go_simp
       have q : Below wn.heap.size wn (wn.alloc (.cells #[] 72)) := (Below.refl _ _).alloc (Nat.le_refl _) _
       have E : TO (wn.alloc (.cells #[] 72)) B 72 7 (some ⟨wn.heap.size, 0, none⟩) 0 0 0 [] := ⟨rfl, World.ownsRow_lit wn #[] 0 hB2 (by unfold maxLen; omega) rfl⟩
       replace P := below_at q P (heap_lt P)
       replace F := F.below q
       replace e6 := e6.trans (Ext.below_all _ q)
       replace hB2 := Nat.le_trans hB2 q.size
       refine hK.out _ _ (Ext.below_all _ q) ?_
       obtain ⟨g0, hg0⟩ : ∃ y, wn.heap.size = y := ⟨_, rfl⟩
       try have hRE := old_ne (n := 0) (c := 0) hg0 R
       try replace R := below_at q R (heap_lt R)
       rw [hg0] at E ⊢
       clear q hg0 kA
       first | (generalize wn.alloc (.cells #[] 72) = wn at P F E R e6 hB2 ⊢) | (generalize wn.alloc (.cells #[] 72) = wn at P F E e6 hB2 ⊢)
       have kA := (cells_of P).1 39
       clear hK K; try simp only [Act.put, List.setIfInBounds_toArray, List.set_cons_zero, List.set_cons_succ]
       refine rg_step 6 rfl (by kernel_rfl) (by rfl) (fun K hK => ?_)
       refine wp_appN _ _ 38 72 7 32 _ Tryz.underlying38 infoROp rfl (by omega) (by omega) rfl B _ _ _ _ _ rfl E H _ _ _ _ _ rfl F (opL_one lo) (by omega) hB2 ?_
       intro A2 k2 wn E2 b3 g3
       replace P := (b3.block g hgB).trans P
       have x3 := Ext.of_grown (M := fun j => j = g ∨ B ≤ j) g3 (fun j hj => .inr (E.lt j hj).1)
       try replace R := (g3.block _ (heap_lt R) hRE).trans R
       replace e6 := e6.trans x3
       replace hB2 := Nat.le_trans hB2 b3.size
       replace E := E2
       refine hK.out _ _ x3 ?_
       obtain ⟨n', hn'⟩ : ∃ y, 0 + n = y := ⟨_, rfl⟩
       rw [hn'] at E ⊢
       clear hn'
       simp only [Nat.zero_add, List.nil_append] at E
       clear x3 g3 b3 E2 kA F
       clear hK K; try simp only [Act.put, List.setIfInBounds_toArray, List.set_cons_zero, List.set_cons_succ]
       refine rg_step 9 rfl (by kernel_rfl) (by rfl) (fun K hK => ?_)
       refine wp_appT _ _ 38 72 7 32 _ Tryz.underlying38 infoROp rfl (by omega) (by omega) rfl B _ _ _ _ _ rfl E _ _ rfl (opC ⟨6, po, x, tp⟩) rfl R (by simp [Value.oneCell']) (by omega) hB2 ?_
       intro A3 k3 wn E3 b3 g3
       replace P := (b3.block g hgB).trans P
       have x3 := Ext.of_grown (M := fun j => j = g ∨ B ≤ j) g3 (fun j hj => .inr (E.lt j hj).1)
       replace e6 := e6.trans x3
       replace E := E3
       refine hK.out _ _ x3 ?_
       clear x3 g3 b3 E3
       try clear kA
       clear hK K; try simp only [Act.put, List.setIfInBounds_toArray, List.set_cons_zero, List.set_cons_succ]
       refine rg_take (v := ?_) 10 rfl (by kernel_rfl) (by kernel_rfl) (by kernel_rfl) (fun _ _ _ h => h) (by rfl) ?_ ?_; rotate_left
       · (intro x hx; go_simp; first | done | with_reducible rfl | (rw [if_pos (by omega)]; try with_reducible rfl) | (rw [if_neg (by omega)]; try with_reducible rfl))
       try simp only [Act.put, List.setIfInBounds_toArray, List.set_cons_zero, List.set_cons_succ]
       refine rg_take (v := ?_) 11 rfl (by kernel_rfl) (by kernel_rfl) (by kernel_rfl) (fun _ _ _ h => h) (by rfl) ?_ ?_; rotate_left
       · (intro x hx; go_simp; first | done | with_reducible rfl | (rw [if_pos (by omega)]; try with_reducible rfl) | (rw [if_neg (by omega)]; try with_reducible rfl))
       try simp only [Act.put, List.setIfInBounds_toArray, List.set_cons_zero, List.set_cons_succ]
       refine rg_step 12 rfl (by kernel_rfl) (by rfl) (fun K hK => ?_)
       --RAW
       apply wp_store_one 38
       case ho => exact rfl
       case hx => exact rfl
       case hy => exact rfl
       case hg => exact P
       case hle => simp
       case hv => rfl
       case hi => kernel_rfl
       case h1 => rfl
       intro wn g5 P5
       have x5 := Ext.of_grown (M := fun j => j = g ∨ B ≤ j) g5 (fun j h => by injection h with h; exact .inl h.symm)
       replace e6 := e6.trans x5
       replace E := E.kept g5 (E.ne P (by decide))
       refine hK.out _ _ x5 ?_
       clear hK K
       refine rg_done (by kernel_rfl) ?_
       --TAIL
       replace E := rpo_end HHB.out E
       have X9 := (e6.block gx (heap_lt HX8.out) (by omega)).trans HX8.out
       have x9 := (cells_of X9).1
       have e10 : Ext (fun j => j = g) w wn := (HE8.out.trans (e6.more (M' := fun j => j = g ∨ w.heap.size ≤ j) (fun j h => h.imp id (Nat.le_trans HWB.out)))).old (Nat.le_refl _)
       clear P g5 x5 hB2 KX X9 e6
       rcases b with _ | _
       · go_wp2_with fail
         go_ret
         exact ⟨A3, _, k3, rfl, P5, E, e10⟩
       · rcases d1 : decide (0 ≤ po) with _ | _
         all_goals
           have HD1 := Lib.hid d1
           go_wp2_with fail
           go_ret
           exact ⟨A3, _, k3, by first | rfl | (rw [HD1.out]; rfl), P5, E, e10⟩
   · go_simp
     have q : Below wn.heap.size wn (wn.alloc (.cells (opC ⟨6, po, x, tp⟩) 72)) := (Below.refl _ _).alloc (Nat.le_refl _) _
     have R := heap_alloc_new wn (.cells (opC ⟨6, po, x, tp⟩) 72)
     replace P := below_at q P (heap_lt P)
     try replace F := F.below q
     replace e6 := e6.trans (Ext.below_all _ q)
     replace hB2 := Nat.le_trans hB2 q.size
     refine hK.out _ _ (Ext.below_all _ q) ?_
     obtain ⟨g1, hg1⟩ : ∃ y, wn.heap.size = y := ⟨_, rfl⟩
     try have hRE := E.new (Nat.le_of_eq hg1)
     try replace E := E.below q
     rw [hg1] at R ⊢
     clear q hg1
     try clear kA
     first | (generalize wn.alloc (.cells (opC ⟨6, po, x, tp⟩) 72) = wn at P F E R e6 hB2 ⊢) | (generalize wn.alloc (.cells (opC ⟨6, po, x, tp⟩) 72) = wn at P F R e6 hB2 ⊢) | (generalize wn.alloc (.cells (opC ⟨6, po, x, tp⟩) 72) = wn at P E R e6 hB2 ⊢)
     have kA := (cells_of P).1 39
     clear hK K; try simp only [Act.put, List.setIfInBounds_toArray, List.set_cons_zero, List.set_cons_succ]
     refine rg_two 1 5 rfl rfl (by kernel_rfl) (by rfl) (by rfl) (fun K hK => ?_) (fun K hK => ?_)
     · go_simp
       have q : Below wn.heap.size wn (wn.alloc (.cells #[] 72)) := (Below.refl _ _).alloc (Nat.le_refl _) _
       have E : TO (wn.alloc (.cells #[] 72)) B 72 7 (some ⟨wn.heap.size, 0, none⟩) 0 0 0 [] := ⟨rfl, World.ownsRow_lit wn #[] 0 hB2 (by unfold maxLen; omega) rfl⟩
       replace P := below_at q P (heap_lt P)
       replace F := F.below q
       replace e6 := e6.trans (Ext.below_all _ q)
       replace hB2 := Nat.le_trans hB2 q.size
       refine hK.out _ _ (Ext.below_all _ q) ?_
       obtain ⟨g0, hg0⟩ : ∃ y, wn.heap.size = y := ⟨_, rfl⟩
       try have hRE := old_ne (n := 0) (c := 0) hg0 R
       try replace R := below_at q R (heap_lt R)
       rw [hg0] at E ⊢
       clear q hg0 kA
       first | (generalize wn.alloc (.cells #[] 72) = wn at P F E R e6 hB2 ⊢) | (generalize wn.alloc (.cells #[] 72) = wn at P F E e6 hB2 ⊢)
       have kA := (cells_of P).1 39
       clear hK K; try simp only [Act.put, List.setIfInBounds_toArray, List.set_cons_zero, List.set_cons_succ]
       refine rg_step 5 rfl (by kernel_rfl) (by rfl) (fun K hK => ?_)
       go_simp
       refine hK.out _ _ (Ext.refl _ _) ?_
       clear hK K; try simp only [Act.put, List.setIfInBounds_toArray, List.set_cons_zero, List.set_cons_succ]
       refine rg_step 6 rfl (by kernel_rfl) (by rfl) (fun K hK => ?_)
       refine wp_appN _ _ 38 72 7 32 _ Tryz.underlying38 infoROp rfl (by omega) (by omega) rfl B _ _ _ _ _ rfl E H _ _ _ _ _ rfl F (opL_one lo) (by omega) hB2 ?_
       intro A2 k2 wn E2 b3 g3
       replace P := (b3.block g hgB).trans P
       have x3 := Ext.of_grown (M := fun j => j = g ∨ B ≤ j) g3 (fun j hj => .inr (E.lt j hj).1)
       try replace R := (g3.block _ (heap_lt R) hRE).trans R
       replace e6 := e6.trans x3
       replace hB2 := Nat.le_trans hB2 b3.size
       replace E := E2
       refine hK.out _ _ x3 ?_
       obtain ⟨n', hn'⟩ : ∃ y, 0 + n = y := ⟨_, rfl⟩
       rw [hn'] at E ⊢
       clear hn'
       simp only [Nat.zero_add, List.nil_append] at E
       clear x3 g3 b3 E2 kA F
       clear hK K; try simp only [Act.put, List.setIfInBounds_toArray, List.set_cons_zero, List.set_cons_succ]
       refine rg_step 9 rfl (by kernel_rfl) (by rfl) (fun K hK => ?_)
       refine wp_appT _ _ 38 72 7 32 _ Tryz.underlying38 infoROp rfl (by omega) (by omega) rfl B _ _ _ _ _ rfl E _ _ rfl (opC ⟨6, po, x, tp⟩) rfl R (by simp [Value.oneCell']) (by omega) hB2 ?_
       intro A3 k3 wn E3 b3 g3
       replace P := (b3.block g hgB).trans P
       have x3 := Ext.of_grown (M := fun j => j = g ∨ B ≤ j) g3 (fun j hj => .inr (E.lt j hj).1)
       replace e6 := e6.trans x3
       replace E := E3
       refine hK.out _ _ x3 ?_
       clear x3 g3 b3 E3
       try clear kA
       clear hK K; try simp only [Act.put, List.setIfInBounds_toArray, List.set_cons_zero, List.set_cons_succ]
       refine rg_take (v := ?_) 10 rfl (by kernel_rfl) (by kernel_rfl) (by kernel_rfl) (fun _ _ _ h => h) (by rfl) ?_ ?_; rotate_left
       · (intro x hx; go_simp; first | done | with_reducible rfl | (rw [if_pos (by omega)]; try with_reducible rfl) | (rw [if_neg (by omega)]; try with_reducible rfl))
       try simp only [Act.put, List.setIfInBounds_toArray, List.set_cons_zero, List.set_cons_succ]
       refine rg_take (v := ?_) 11 rfl (by kernel_rfl) (by kernel_rfl) (by kernel_rfl) (fun _ _ _ h => h) (by rfl) ?_ ?_; rotate_left
       · (intro x hx; go_simp; first | done | with_reducible rfl | (rw [if_pos (by omega)]; try with_reducible rfl) | (rw [if_neg (by omega)]; try with_reducible rfl))
       try simp only [Act.put, List.setIfInBounds_toArray, List.set_cons_zero, List.set_cons_succ]
       refine rg_step 12 rfl (by kernel_rfl) (by rfl) (fun K hK => ?_)
       --RAW
       apply wp_store_one 38
       case ho => exact rfl
       case hx => exact rfl
       case hy => exact rfl
       case hg => exact P
       case hle => simp
       case hv => rfl
       case hi => kernel_rfl
       case h1 => rfl
       intro wn g5 P5
       have x5 := Ext.of_grown (M := fun j => j = g ∨ B ≤ j) g5 (fun j h => by injection h with h; exact .inl h.symm)
       replace e6 := e6.trans x5
       replace E := E.kept g5 (E.ne P (by decide))
       refine hK.out _ _ x5 ?_
       clear hK K
       refine rg_done (by kernel_rfl) ?_
       --TAIL
       replace E := rpo_end HHB.out E
       have X9 := (e6.block gx (heap_lt HX8.out) (by omega)).trans HX8.out
       have x9 := (cells_of X9).1
       have e10 : Ext (fun j => j = g) w wn := (HE8.out.trans (e6.more (M' := fun j => j = g ∨ w.heap.size ≤ j) (fun j h => h.imp id (Nat.le_trans HWB.out)))).old (Nat.le_refl _)
       clear P g5 x5 hB2 KX X9 e6
       rcases b with _ | _
       · go_wp2_with fail
         go_ret
         exact ⟨A3, _, k3, rfl, P5, E, e10⟩
       · rcases d1 : decide (0 ≤ po) with _ | _
         all_goals
           have HD1 := Lib.hid d1
           go_wp2_with fail
           go_ret
           exact ⟨A3, _, k3, by first | rfl | (rw [HD1.out]; rfl), P5, E, e10⟩
     · go_simp
       refine hK.out _ _ (Ext.refl _ _) ?_
       clear hK K; try simp only [Act.put, List.setIfInBounds_toArray, List.set_cons_zero, List.set_cons_succ]
       refine rg_step 1 rfl (by kernel_rfl) (by rfl) (fun K hK => ?_)
       go_simp
       have q : Below wn.heap.size wn (wn.alloc (.cells #[] 72)) := (Below.refl _ _).alloc (Nat.le_refl _) _
       have E : TO (wn.alloc (.cells #[] 72)) B 72 7 (some ⟨wn.heap.size, 0, none⟩) 0 0 0 [] := ⟨rfl, World.ownsRow_lit wn #[] 0 hB2 (by unfold maxLen; omega) rfl⟩
       replace P := below_at q P (heap_lt P)
       replace F := F.below q
       replace e6 := e6.trans (Ext.below_all _ q)
       replace hB2 := Nat.le_trans hB2 q.size
       refine hK.out _ _ (Ext.below_all _ q) ?_
       obtain ⟨g0, hg0⟩ : ∃ y, wn.heap.size = y := ⟨_, rfl⟩
       try have hRE := old_ne (n := 0) (c := 0) hg0 R
       try replace R := below_at q R (heap_lt R)
       rw [hg0] at E ⊢
       clear q hg0 kA
       first | (generalize wn.alloc (.cells #[] 72) = wn at P F E R e6 hB2 ⊢) | (generalize wn.alloc (.cells #[] 72) = wn at P F E e6 hB2 ⊢)
       have kA := (cells_of P).1 39
       clear hK K; try simp only [Act.put, List.setIfInBounds_toArray, List.set_cons_zero, List.set_cons_succ]
       refine rg_step 6 rfl (by kernel_rfl) (by rfl) (fun K hK => ?_)
       refine wp_appN _ _ 38 72 7 32 _ Tryz.underlying38 infoROp rfl (by omega) (by omega) rfl B _ _ _ _ _ rfl E H _ _ _ _ _ rfl F (opL_one lo) (by omega) hB2 ?_
       intro A2 k2 wn E2 b3 g3
       replace P := (b3.block g hgB).trans P
       have x3 := Ext.of_grown (M := fun j => j = g ∨ B ≤ j) g3 (fun j hj => .inr (E.lt j hj).1)
       try replace R := (g3.block _ (heap_lt R) hRE).trans R
       replace e6 := e6.trans x3
       replace hB2 := Nat.le_trans hB2 b3.size
       replace E := E2
       refine hK.out _ _ x3 ?_
       obtain ⟨n', hn'⟩ : ∃ y, 0 + n = y := ⟨_, rfl⟩
       rw [hn'] at E ⊢
       clear hn'
       simp only [Nat.zero_add, List.nil_append] at E
       clear x3 g3 b3 E2 kA F
       clear hK K; try simp only [Act.put, List.setIfInBounds_toArray, List.set_cons_zero, List.set_cons_succ]
       refine rg_step 9 rfl (by kernel_rfl) (by rfl) (fun K hK => ?_)
       refine wp_appT _ _ 38 72 7 32 _ Tryz.underlying38 infoROp rfl (by omega) (by omega) rfl B _ _ _ _ _ rfl E _ _ rfl (opC ⟨6, po, x, tp⟩) rfl R (by simp [Value.oneCell']) (by omega) hB2 ?_
       intro A3 k3 wn E3 b3 g3
       replace P := (b3.block g hgB).trans P
       have x3 := Ext.of_grown (M := fun j => j = g ∨ B ≤ j) g3 (fun j hj => .inr (E.lt j hj).1)
       replace e6 := e6.trans x3
       replace E := E3
       refine hK.out _ _ x3 ?_
       clear x3 g3 b3 E3
       try clear kA
       clear hK K; try simp only [Act.put, List.setIfInBounds_toArray, List.set_cons_zero, List.set_cons_succ]
       refine rg_take (v := ?_) 10 rfl (by kernel_rfl) (by kernel_rfl) (by kernel_rfl) (fun _ _ _ h => h) (by rfl) ?_ ?_; rotate_left
       · (intro x hx; go_simp; first | done | with_reducible rfl | (rw [if_pos (by omega)]; try with_reducible rfl) | (rw [if_neg (by omega)]; try with_reducible rfl))
       try simp only [Act.put, List.setIfInBounds_toArray, List.set_cons_zero, List.set_cons_succ]
       refine rg_take (v := ?_) 11 rfl (by kernel_rfl) (by kernel_rfl) (by kernel_rfl) (fun _ _ _ h => h) (by rfl) ?_ ?_; rotate_left
       · (intro x hx; go_simp; first | done | with_reducible rfl | (rw [if_pos (by omega)]; try with_reducible rfl) | (rw [if_neg (by omega)]; try with_reducible rfl))
       try simp only [Act.put, List.setIfInBounds_toArray, List.set_cons_zero, List.set_cons_succ]
       refine rg_step 12 rfl (by kernel_rfl) (by rfl) (fun K hK => ?_)
       --RAW
       apply wp_store_one 38
       case ho => exact rfl
       case hx => exact rfl
       case hy => exact rfl
       case hg => exact P
       case hle => simp
       case hv => rfl
       case hi => kernel_rfl
       case h1 => rfl
       intro wn g5 P5
       have x5 := Ext.of_grown (M := fun j => j = g ∨ B ≤ j) g5 (fun j h => by injection h with h; exact .inl h.symm)
       replace e6 := e6.trans x5
       replace E := E.kept g5 (E.ne P (by decide))
       refine hK.out _ _ x5 ?_
       clear hK K
       refine rg_done (by kernel_rfl) ?_
       --TAIL
       replace E := rpo_end HHB.out E
       have X9 := (e6.block gx (heap_lt HX8.out) (by omega)).trans HX8.out
       have x9 := (cells_of X9).1
       have e10 : Ext (fun j => j = g) w wn := (HE8.out.trans (e6.more (M' := fun j => j = g ∨ w.heap.size ≤ j) (fun j h => h.imp id (Nat.le_trans HWB.out)))).old (Nat.le_refl _)
       clear P g5 x5 hB2 KX X9 e6
       rcases b with _ | _
       · go_wp2_with fail
         go_ret
         exact ⟨A3, _, k3, rfl, P5, E, e10⟩
       · rcases d1 : decide (0 ≤ po) with _ | _
         all_goals
           have HD1 := Lib.hid d1
           go_wp2_with fail
           go_ret
           exact ⟨A3, _, k3, by first | rfl | (rw [HD1.out]; rfl), P5, E, e10⟩
end Go.Proofs.YtnmdiageigbphaaGreatDoor
