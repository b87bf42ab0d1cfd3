/-
  The walk of the statement DhcpWrites.
-/
import Derived.Test.YtidohmcneoldcaaDh13
namespace Go.Proofs.Ytidohmcneoldcaa
open Go.RowKit

theorem putM_len (h : Hd) (os : List Ob) (hp : (putM h os).2 = 0) : 300 ≤ (putM h os).1.length ∧ (putM h os).1.length ≤ 1440 := by
  unfold putM at hp ⊢
  split
  · rename_i h0
    rw [if_pos h0] at hp
    split
    · refine ⟨padM_length _, ?_⟩
      have := putO_len os _ rfl
      simp only [padM, List.length_append, headM_length, List.length_replicate]
      omega
    · rename_i h1
      rw [if_neg h1] at hp
      exact absurd hp h1
  · rename_i h0
    rw [if_neg h0] at hp
    cases hp
theorem putM_ok (h : Hd) (os : List Ob) (hp : (putM h os).2 ≠ 0) : (putM h os).1 = [] := by
  unfold putM at hp ⊢
  split
  · rename_i h0
    rw [if_pos h0] at hp
    split
    · rename_i h1
      rw [if_pos h1] at hp
      exact absurd rfl hp
    · rfl
  · rfl

set_option maxRecDepth 100000 in
set_option maxHeartbeats 4000000 in
theorem dhcpWrites_walk (w : World) (hd : Hd) (A : Option Addr) (n c : Nat) (l : List Op1) (h : OS w w.heap.size A n c l) (hx0 : 0 ≤ hd.xid) (hx1 : hd.xid < 4294967296) :
    Calls Try.prog 9 #[msV hd A n c] w (TruePost w) := by
  obtain ⟨r, hr⟩ : ∃ r, putM hd (obs l) = r := ⟨_, rfl⟩
  have HLN := Lib.hid (And.intro (putM_len hd (obs l)) (get_put_m hd (obs l) hx0 hx1))
  rw [hr] at HLN
  have HR := Lib.hid hr
  clear hr
  obtain ⟨pb, er⟩ := r
  obtain ⟨ty, hty⟩ : ∃ ty, typeO (obs l) = ty := ⟨_, rfl⟩
  have HTY := Lib.hid hty
  clear hty
  have b0 : Below w.heap.size w (w.alloc (.cells (msC hd A n c) 56)) := (Below.refl _ w).alloc (Nat.le_refl _) _
  have os1 := (h.below b0).more b0.size
  have P1 : (w.alloc (.cells (msC hd A n c) 56)).heap[w.heap.size]? = some (.cells (msC hd A n c) 56 (0, 0)) := heap_alloc_new w _
  clear h
  go_enter Try.func9, Try.ntmps9
  go_upto_region 1 with fail
  generalize w.alloc (.cells (msC hd A n c) 56) = w1 at b0 os1 P1 ⊢
  obtain ⟨g, hg⟩ : ∃ g, w.heap.size = g := ⟨_, rfl⟩
  rw [hg] at P1 ⊢
  have HG := Lib.hid hg
  clear hg
  go_wp2_with fail
  refine (awake13_any w1).mono ?_
  rintro e w2 ⟨rfl, q2⟩
  have P2 := below_at q2 P1 (heap_lt P1)
  have o2 := (os1.below q2).more q2.size
  have Q2 := b0.trans (q2.mono b0.size)
  clear os1 P1 b0 q2
  go_wp2_with ((with_reducible apply at_load_row 56); (case hx => exact rfl); (case hg => exact P2); (case hu => exact Try.underlying56); (case hd => rfl); (case hi => kernel_rfl))
  refine (great13_any w2 hd A n c l o2).mono ?_
  rintro e w3 ⟨b, rfl, hb, q3⟩
  have P3 := below_at q3 P2 (heap_lt P2)
  have o3 := (o2.below q3).more q3.size
  have Q3 := Q2.trans (q3.mono Q2.size)
  have HGR := Lib.hid hb
  clear o2 P2 Q2 q3 hb
  rcases b with _ | _
  · have hng : ¬ greatM l := fun hh => by have := HGR.out.2 hh; cases this
    have hl : l.length ≤ 20 := by
      rcases Nat.lt_or_ge 20 l.length with h1 | h1
      · exact absurd (.inl h1) hng
      · exact h1
    have hB : ∀ o ∈ l, o.body.length ≤ 1300 := fun o ho => by
      rcases Nat.lt_or_ge 1300 o.body.length with h1 | h1
      · exact absurd (.inr ⟨o, ho, h1⟩) hng
      · exact h1
    have HB := Lib.hid (show ∀ o ∈ l, o.body.length ≤ 1099511627776 from fun o ho => Nat.le_trans (hB o ho) (by omega))
    have hl' : l.length ≤ 1099511627776 := by omega
    clear hng hB
    go_wp2_with ((with_reducible apply at_load_row 56); (case hx => exact rfl); (case hg => exact P3); (case hu => exact Try.underlying56); (case hd => rfl); (case hi => kernel_rfl))
    refine (dput_any w3 hd A n c l o3 hl' HB.out hx0 hx1).mono ?_
    rw [HR.out]
    rintro e w4 ⟨A4, n4, c4, rfl, ob4, q4⟩
    have P4 := below_at q4 P3 (heap_lt P3)
    have o4 := (o3.below q4).more q4.size
    have Q4 := Q3.trans (q4.mono Q3.size)
    clear o3 P3 Q3 q4
    go_wp2_with ((with_reducible apply at_load_row 56); (case hx => exact rfl); (case hg => exact P4); (case hu => exact Try.underlying56); (case hd => rfl); (case hi => kernel_rfl))
    refine (own13_any w4 hd A n c l o4 hl').mono ?_
    rintro e w5 ⟨A5, n5, c5, rfl, oo5, q5⟩
    have P5 := below_at q5 P4 (heap_lt P4)
    have o5 := (o4.below q5).more q5.size
    have Q5 := Q4.trans (q5.mono Q4.size)
    have ob5 := ob4.below q5
    clear o4 P4 Q4 q5 ob4
    go_wp2_with fail
    refine (rputm_any w5 hd A5 n5 c5 l oo5 hl' HB.out hx0 hx1).mono ?_
    rw [HR.out]
    rintro e w6 ⟨A6, n6, c6, rfl, ob6, q6⟩
    have P6 := below_at q6 P5 (heap_lt P5)
    have o6 := (o5.below q6).more q6.size
    have Q6 := Q5.trans (q6.mono Q5.size)
    have ob6' := ob5.below q6
    clear o5 P5 Q5 q6 ob5 oo5
    go_upto_region 7 with fail
    go_cut [41] (fun v wx => v = .bool false ∧ Below w6.heap.size w6 wx)
    case first =>
      have r6 : Below w6.heap.size w6 w6.drew := (Below.refl _ _).drew
      have s1 := (ob6'.drew).reads (M := fun k => w6.heap.size ≤ k) (fun k _ hk h => by have : w6.drew.heap.size = w6.heap.size := rfl; omega)
      have s2 := (ob6.drew).reads (M := fun k => w6.heap.size ≤ k) (fun k _ hk h => by have : w6.drew.heap.size = w6.heap.size := rfl; omega)
      have C11 := Ext.at_ (M := fun k => w6.heap.size ≤ k) (w := w6.drew) P6 (by have := heap_lt P6; omega)
      have hse : ((str pb).toList == (str pb).toList) = true := beq_self_eq_true _
      refine rg_begin (fun k => w6.heap.size ≤ k) (by kernel_rfl) ?_
      refine rg_take (v := ?_) 0 rfl (by kernel_rfl) (by kernel_rfl) (by kernel_rfl) (fun _ _ _ h => h) (by rfl) ?_ ?_; rotate_left
      · (intro x hx; go_simp; first | done | with_reducible rfl | (rw [if_pos (by omega)]; try with_reducible rfl) | (rw [if_neg (by omega)]; try with_reducible rfl))
      try simp only [Act.put, List.setIfInBounds_toArray, List.set_cons_zero, List.set_cons_succ]
      refine rg_take (v := ?_) 1 rfl (by kernel_rfl) (by kernel_rfl) (by kernel_rfl) (fun _ _ _ h => h) (by rfl) ?_ ?_; rotate_left
      · (intro x hx; go_simp; first | done | with_reducible rfl | (rw [if_pos (by omega)]; try with_reducible rfl) | (rw [if_neg (by omega)]; try with_reducible rfl))
      try simp only [Act.put, List.setIfInBounds_toArray, List.set_cons_zero, List.set_cons_succ]
      refine rg_take (v := ?_) 2 rfl (by kernel_rfl) (by kernel_rfl) (by kernel_rfl) (fun _ _ _ h => h) (by rfl) ?_ ?_; rotate_left
      · (intro x hx; go_simp; first | done | with_reducible rfl | (rw [if_pos (by omega)]; try with_reducible rfl) | (rw [if_neg (by omega)]; try with_reducible rfl))
      try simp only [Act.put, List.setIfInBounds_toArray, List.set_cons_zero, List.set_cons_succ]
      refine rg_take (v := ?_) 3 rfl (by kernel_rfl) (by kernel_rfl) (by kernel_rfl) (fun _ _ _ h => h) (by rfl) ?_ ?_; rotate_left
      · (intro x hx; go_simp; first | done | with_reducible rfl | (rw [if_pos (by omega)]; try with_reducible rfl) | (rw [if_neg (by omega)]; try with_reducible rfl))
      try simp only [Act.put, List.setIfInBounds_toArray, List.set_cons_zero, List.set_cons_succ]
      refine rg_take (v := ?_) 4 rfl (by kernel_rfl) (by kernel_rfl) (by kernel_rfl) (fun _ _ _ h => h) (by rfl) ?_ ?_; rotate_left
      · (intro x hx; go_simp; first | done | with_reducible rfl | (rw [if_pos (by omega)]; try with_reducible rfl) | (rw [if_neg (by omega)]; try with_reducible rfl))
      try simp only [Act.put, List.setIfInBounds_toArray, List.set_cons_zero, List.set_cons_succ]
      refine rg_take (v := ?_) 5 rfl (by kernel_rfl) (by kernel_rfl) (by kernel_rfl) (fun _ _ _ h => h) (by rfl) ?_ ?_; rotate_left
      · (intro x hx; go_simp; first | done | with_reducible rfl | (rw [if_pos (by omega)]; try with_reducible rfl) | (rw [if_neg (by omega)]; try with_reducible rfl))
      try simp only [Act.put, List.setIfInBounds_toArray, List.set_cons_zero, List.set_cons_succ]
      refine rg_take (v := ?_) 6 rfl (by kernel_rfl) (by kernel_rfl) (by kernel_rfl) (fun _ _ _ h => h) (by rfl) ?_ ?_; rotate_left
      · (intro x hx; go_simp; first | done | with_reducible rfl | (rw [if_pos (by omega)]; try with_reducible rfl) | (rw [if_neg (by omega)]; try with_reducible rfl))
      try simp only [Act.put, List.setIfInBounds_toArray, List.set_cons_zero, List.set_cons_succ]
      refine rg_take (v := ?_) 7 rfl (by kernel_rfl) (by kernel_rfl) (by kernel_rfl) (fun _ _ _ h => h) (by rfl) ?_ ?_; rotate_left
      · (intro x hx; go_simp; first | done | with_reducible rfl | (rw [if_pos (by omega)]; try with_reducible rfl) | (rw [if_neg (by omega)]; try with_reducible rfl))
      try simp only [Act.put, List.setIfInBounds_toArray, List.set_cons_zero, List.set_cons_succ]
      refine rg_take (v := ?_) 8 rfl (by kernel_rfl) (by kernel_rfl) (by kernel_rfl) (fun _ _ _ h => h) (by rfl) ?_ ?_; rotate_left
      · (intro x hx; go_simp; first | done | with_reducible rfl | (rw [if_pos (by omega)]; try with_reducible rfl) | (rw [if_neg (by omega)]; try with_reducible rfl))
      try simp only [Act.put, List.setIfInBounds_toArray, List.set_cons_zero, List.set_cons_succ]
      refine rg_take (v := ?_) 9 rfl (by kernel_rfl) (by kernel_rfl) (by kernel_rfl) (fun _ _ _ h => h) (by rfl) ?_ ?_; rotate_left
      · (intro x hx; go_simp; first | done | with_reducible rfl | (rw [if_pos (by omega)]; try with_reducible rfl) | (rw [if_neg (by omega)]; try with_reducible rfl))
      try simp only [Act.put, List.setIfInBounds_toArray, List.set_cons_zero, List.set_cons_succ]
      refine rg_take (v := ?_) 10 rfl (by kernel_rfl) (by kernel_rfl) (by kernel_rfl) (fun _ _ _ h => h) (by rfl) ?_ ?_; rotate_left
      · (intro x hx; go_simp; first | done | with_reducible rfl | (rw [if_pos (by omega)]; try with_reducible rfl) | (rw [if_neg (by omega)]; try with_reducible rfl))
      try simp only [Act.put, List.setIfInBounds_toArray, List.set_cons_zero, List.set_cons_succ]
      refine rg_take (v := .agg (msC hd A n c)) 11 rfl (by kernel_rfl) (by kernel_rfl) (by kernel_rfl) (fun _ _ _ h => h) (by rfl) ?_ ?_
      · (intro x hx; apply run_load_big; (case ho => exact rfl); (case hv => exact rfl); (case hg => exact C11 x hx); (case hu => exact Try.underlying56); (case hd => rfl); (case hi => kernel_rfl))
      try simp only [Act.put, List.setIfInBounds_toArray, List.set_cons_zero, List.set_cons_succ]
      refine rg_take (v := .agg (msC hd A n c)) 13 rfl (by kernel_rfl) (by kernel_rfl) (by kernel_rfl) (fun _ _ _ h => h) (by rfl) ?_ ?_
      · (intro x hx; apply run_load_big; (case ho => exact rfl); (case hv => exact rfl); (case hg => exact C11 x hx); (case hu => exact Try.underlying56); (case hd => rfl); (case hi => kernel_rfl))
      try simp only [Act.put, List.setIfInBounds_toArray, List.set_cons_zero, List.set_cons_succ]
      refine rg_step 12 rfl (by kernel_rfl) (by rfl) (fun K hK => ?_)
      go_simp
      refine (type_any _ hd A n c l ((o6.below r6).more r6.size) HB.out).mono ?_
      rw [HTY.out]
      rintro e w7 ⟨rfl, q7⟩
      have r7 := r6.trans (q7.mono r6.size)
      refine hK.out _ _ (Ext.below_all _ q7) ?_
      clear hK K; try simp only [Act.put, List.setIfInBounds_toArray, List.set_cons_zero, List.set_cons_succ]
      refine rg_step 14 rfl (by kernel_rfl) (by rfl) (fun K hK => ?_)
      go_simp
      refine (own13_any _ hd A n c l ((o6.below r7).more r7.size) hl').mono ?_
      rintro e w8 ⟨A8, n8, c8, rfl, oo8, q8⟩
      have r8 := r7.trans (q8.mono r7.size)
      refine hK.out _ _ (Ext.below_all _ q8) ?_
      clear hK K; try simp only [Act.put, List.setIfInBounds_toArray, List.set_cons_zero, List.set_cons_succ]
      refine rg_step 15 rfl (by kernel_rfl) (by rfl) (fun K hK => ?_)
      go_simp
      refine (rtype_any _ hd A8 n8 c8 l oo8).mono ?_
      rw [HTY.out]
      rintro e w9 ⟨rfl, q9⟩
      have r9 := r8.trans (q9.mono r8.size)
      refine hK.out _ _ (Ext.below_all _ q9) ?_
      clear hK K; try simp only [Act.put, List.setIfInBounds_toArray, List.set_cons_zero, List.set_cons_succ]
      refine rg_take (v := ?_) 16 rfl (by kernel_rfl) (by kernel_rfl) (by kernel_rfl) (fun _ _ _ h => h) (by rfl) ?_ ?_; rotate_left
      · (intro x hx; go_simp; first | done | with_reducible rfl | (rw [if_pos (by omega)]; try with_reducible rfl) | (rw [if_neg (by omega)]; try with_reducible rfl))
      try simp only [Act.put, List.setIfInBounds_toArray, List.set_cons_zero, List.set_cons_succ]
      refine rg_take (v := ?_) 17 rfl (by kernel_rfl) (by kernel_rfl) (by kernel_rfl) (fun _ _ _ h => h) (by rfl) ?_ ?_; rotate_left
      · (intro x hx; go_simp; first | done | with_reducible rfl | (rw [if_pos (by omega)]; try with_reducible rfl) | (rw [if_neg (by omega)]; try with_reducible rfl))
      try simp only [Act.put, List.setIfInBounds_toArray, List.set_cons_zero, List.set_cons_succ]
      refine rg_done (by kernel_rfl) ?_
      go_wp2_with fail
      go_meet
      exact ⟨rfl, r9⟩
    case rest =>
      obtain ⟨rfl, qc⟩ := hcut
      have P9 := below_at qc P6 (heap_lt P6)
      have o9 := (o6.below qc).more qc.size
      have Q9 := Q6.trans (qc.mono Q6.size)
      have ob9 := ob6'.below qc
      clear o6 P6 Q6 qc ob6 ob6'
      by_cases her : er = 0
      · subst her
        have hlen := HLN.out.1 rfl
        have HGP := Lib.hid (HLN.out.2 rfl)
        have hn4 : n4 = pb.length := ob9.1
        have hn4' : 300 ≤ n4 ∧ n4 ≤ 1440 := by rw [hn4]; exact hlen
        have d300 : decide (300 ≤ (n4 : Int)) = true := decide_eq_true (by omega)
        clear hn4 hlen
        go_wp2_with fail
        refine (dget_any wc A4 n4 c4 pb ob9.bs (by omega)).mono ?_
        rw [HGP.out]
        rintro e w10 ⟨A10, n10, c10, l10, rfl, o10, hl10, q10⟩
        have HL10 := Lib.hid hl10
        have P10 := below_at q10 P9 (heap_lt P9)
        have o10' := (o9.below q10).more q10.size
        have Q10 := Q9.trans (q10.mono Q9.size)
        clear hl10 P9 o9 Q9 q10 ob9
        go_upto_region 12 with ((with_reducible apply at_store_new 56); (case hx => exact rfl); (case hy => exact rfl); (case hg => first | rfl | simp); (case hi => kernel_rfl); (case hold => rfl); (case h1 => kernel_rfl))
        have PM := heap_alloc_of (o := .cells (msC hd A10 n10 c10) 56) P10
        have PN := heap_alloc_new w10 (.cells (msC hd A10 n10 c10) 56)
        have om := o10'.step1 (.cells (msC hd A10 n10 c10) 56)
        have on := OS.step1 o10 (.cells (msC hd A10 n10 c10) 56)
        have Q11 := Q10.alloc Q10.size (.cells (msC hd A10 n10 c10) 56)
        clear P10 o10 o10' Q10
        generalize w10.alloc (.cells (msC hd A10 n10 c10) 56) = w11 at PM PN om on Q11 ⊢
        obtain ⟨x, hx⟩ : ∃ x, w10.heap.size = x := ⟨_, rfl⟩
        rw [hx] at PN ⊢
        clear hx
        have hl10 : l10.length ≤ 1099511627776 := by rw [← obs_length, HL10.out, obs_length]; omega
        have r4 : Below w11.heap.size w11 w11.drew := (Below.refl _ _).drew
        have C3 := Ext.at_ (M := fun k => w11.heap.size ≤ k) (w := w11.drew) PN (by have := heap_lt PN; omega)
        have C5 := Ext.at_ (M := fun k => w11.heap.size ≤ k) (w := w11.drew) PM (by have := heap_lt PM; omega)
        refine rg_begin (fun k => w11.heap.size ≤ k) (by kernel_rfl) ?_
        refine rg_take (v := ?_) 0 rfl (by kernel_rfl) (by kernel_rfl) (by kernel_rfl) (fun _ _ _ h => h) (by rfl) ?_ ?_; rotate_left
        · (intro x hx; go_simp; first | done | with_reducible rfl | (rw [if_pos (by omega)]; try with_reducible rfl) | (rw [if_neg (by omega)]; try with_reducible rfl))
        try simp only [Act.put, List.setIfInBounds_toArray, List.set_cons_zero, List.set_cons_succ]
        refine rg_take (v := ?_) 1 rfl (by kernel_rfl) (by kernel_rfl) (by kernel_rfl) (fun _ _ _ h => h) (by rfl) ?_ ?_; rotate_left
        · (intro x hx; go_simp; first | done | with_reducible rfl | (rw [if_pos (by omega)]; try with_reducible rfl) | (rw [if_neg (by omega)]; try with_reducible rfl))
        try simp only [Act.put, List.setIfInBounds_toArray, List.set_cons_zero, List.set_cons_succ]
        refine rg_take (v := ?_) 2 rfl (by kernel_rfl) (by kernel_rfl) (by kernel_rfl) (fun _ _ _ h => h) (by rfl) ?_ ?_; rotate_left
        · (intro x hx; go_simp; first | done | with_reducible rfl | (rw [if_pos (by omega)]; try with_reducible rfl) | (rw [if_neg (by omega)]; try with_reducible rfl))
        try simp only [Act.put, List.setIfInBounds_toArray, List.set_cons_zero, List.set_cons_succ]
        refine rg_take (v := .agg (msC hd A10 n10 c10)) 3 rfl (by kernel_rfl) (by kernel_rfl) (by kernel_rfl) (fun _ _ _ h => h) (by rfl) ?_ ?_
        · (intro x hx; apply run_load_big; (case ho => exact rfl); (case hv => exact rfl); (case hg => exact C3 x hx); (case hu => exact Try.underlying56); (case hd => rfl); (case hi => kernel_rfl))
        try simp only [Act.put, List.setIfInBounds_toArray, List.set_cons_zero, List.set_cons_succ]
        refine rg_take (v := .agg (msC hd A n c)) 5 rfl (by kernel_rfl) (by kernel_rfl) (by kernel_rfl) (fun _ _ _ h => h) (by rfl) ?_ ?_
        · (intro x hx; apply run_load_big; (case ho => exact rfl); (case hv => exact rfl); (case hg => exact C5 x hx); (case hu => exact Try.underlying56); (case hd => rfl); (case hi => kernel_rfl))
        try simp only [Act.put, List.setIfInBounds_toArray, List.set_cons_zero, List.set_cons_succ]
        refine rg_step 4 rfl (by kernel_rfl) (by rfl) (fun K hK => ?_)
        go_simp
        refine (own13_any _ hd A10 n10 c10 l10 ((on.below r4).more r4.size) hl10).mono ?_
        rintro e w12 ⟨A12, n12, c12, rfl, o12, q12⟩
        have r5 := r4.trans (q12.mono r4.size)
        refine hK.out _ _ (Ext.below_all _ q12) ?_
        clear hK K; try simp only [Act.put, List.setIfInBounds_toArray, List.set_cons_zero, List.set_cons_succ]
        refine rg_step 6 rfl (by kernel_rfl) (by rfl) (fun K hK => ?_)
        go_simp
        refine (own13_any _ hd A n c l ((om.below r5).more r5.size) hl').mono ?_
        rintro e w13 ⟨A13, n13, c13, rfl, o13, q13⟩
        have r6 := r5.trans (q13.mono r5.size)
        refine hK.out _ _ (Ext.below_all _ q13) ?_
        clear hK K; try simp only [Act.put, List.setIfInBounds_toArray, List.set_cons_zero, List.set_cons_succ]
        refine rg_step 7 rfl (by kernel_rfl) (by rfl) (fun K hK => ?_)
        go_simp
        refine (same13_eq _ hd A12 n12 c12 l10 ((o12.below q13).more q13.size) A13 n13 c13 l o13 hl10 HL10.out).mono ?_
        rintro e w14 ⟨rfl, q14⟩
        have r7 := r6.trans (q14.mono r6.size)
        refine hK.out _ _ (Ext.below_all _ q14) ?_
        clear hK K; try simp only [Act.put, List.setIfInBounds_toArray, List.set_cons_zero, List.set_cons_succ]
        refine rg_take (v := ?_) 8 rfl (by kernel_rfl) (by kernel_rfl) (by kernel_rfl) (fun _ _ _ h => h) (by rfl) ?_ ?_; rotate_left
        · (intro x hx; go_simp; first | done | with_reducible rfl | (rw [if_pos (by omega)]; try with_reducible rfl) | (rw [if_neg (by omega)]; try with_reducible rfl))
        try simp only [Act.put, List.setIfInBounds_toArray, List.set_cons_zero, List.set_cons_succ]
        refine rg_take (v := ?_) 9 rfl (by kernel_rfl) (by kernel_rfl) (by kernel_rfl) (fun _ _ _ h => h) (by rfl) ?_ ?_; rotate_left
        · (intro x hx; go_simp; first | done | with_reducible rfl | (rw [if_pos (by omega)]; try with_reducible rfl) | (rw [if_neg (by omega)]; try with_reducible rfl))
        try simp only [Act.put, List.setIfInBounds_toArray, List.set_cons_zero, List.set_cons_succ]
        refine rg_take (v := ?_) 10 rfl (by kernel_rfl) (by kernel_rfl) (by kernel_rfl) (fun _ _ _ h => h) (by rfl) ?_ ?_; rotate_left
        · (intro x hx; go_simp; first | done | with_reducible rfl | (rw [if_pos (by omega)]; try with_reducible rfl) | (rw [if_neg (by omega)]; try with_reducible rfl))
        try simp only [Act.put, List.setIfInBounds_toArray, List.set_cons_zero, List.set_cons_succ]
        refine rg_take (v := ?_) 11 rfl (by kernel_rfl) (by kernel_rfl) (by kernel_rfl) (fun _ _ _ h => h) (by rfl) ?_ ?_; rotate_left
        · (intro x hx; go_simp; first | done | with_reducible rfl | (rw [if_pos (by omega)]; try with_reducible rfl) | (rw [if_neg (by omega)]; try with_reducible rfl))
        try simp only [Act.put, List.setIfInBounds_toArray, List.set_cons_zero, List.set_cons_succ]
        refine rg_take (v := ?_) 12 rfl (by kernel_rfl) (by kernel_rfl) (by kernel_rfl) (fun _ _ _ h => h) (by rfl) ?_ ?_; rotate_left
        · (intro x hx; go_simp; first | done | with_reducible rfl | (rw [if_pos (by omega)]; try with_reducible rfl) | (rw [if_neg (by omega)]; try with_reducible rfl))
        try simp only [Act.put, List.setIfInBounds_toArray, List.set_cons_zero, List.set_cons_succ]
        refine rg_take (v := ?_) 13 rfl (by kernel_rfl) (by kernel_rfl) (by kernel_rfl) (fun _ _ _ h => h) (by rfl) ?_ ?_; rotate_left
        · (intro x hx; go_simp; first | done | with_reducible rfl | (rw [if_pos (by omega)]; try with_reducible rfl) | (rw [if_neg (by omega)]; try with_reducible rfl))
        try simp only [Act.put, List.setIfInBounds_toArray, List.set_cons_zero, List.set_cons_succ]
        refine rg_take (v := ?_) 14 rfl (by kernel_rfl) (by kernel_rfl) (by kernel_rfl) (fun _ _ _ h => h) (by rfl) ?_ ?_; rotate_left
        · (intro x hx; go_simp; first | done | with_reducible rfl | (rw [if_pos (by omega)]; try with_reducible rfl) | (rw [if_neg (by omega)]; try with_reducible rfl))
        try simp only [Act.put, List.setIfInBounds_toArray, List.set_cons_zero, List.set_cons_succ]
        refine rg_done (by kernel_rfl) ?_
        go_wp2_with fail
        go_ret
        exact ⟨rfl, Q11.trans (r7.mono Q11.size)⟩
      · have her' : (er != 0) = true := by rw [bne_iff_ne]; exact her
        go_wp2_with fail
        go_ret
        exact ⟨rfl, Q9⟩
  · go_wp2_with fail
    go_ret
    exact ⟨rfl, Q3⟩
end Go.Proofs.Ytidohmcneoldcaa
