/-
  The walk of the statement DhcpReads.
-/
import Derived.Test.YtidohmcneoldcaaDh8b
import Derived.Test.YtidohmcneoldcaaDh13
namespace Go.Proofs.Ytidohmcneoldcaa
open Go.RowKit

theorem getM_os (l : List UInt8) (hd : Hd) (os : List Ob) (er : Int) (h : getM l = ((hd, os), er)) {m : Nat} (hl : l.length ≤ m) : os.length ≤ m := by
  unfold getM at h
  split at h
  · injection h with h _; injection h with _ h; subst h; simp
  · split at h
    · split at h
      · injection h with h _; injection h with _ h; subst h; simp
      · rename_i os' hg
        have := (getO_size _ _ hg).1
        simp at this
        split at h
        · injection h with h _; injection h with _ h; subst h; simp
        · injection h with h _; injection h with _ h; subst h; omega
    · injection h with h _; injection h with _ h; subst h; simp

set_option maxRecDepth 100000 in
set_option maxHeartbeats 2000000 in
theorem dhcpReads_walk (w : World) (A : Option Addr) (n c : Nat) (l : List UInt8) (h : BS w w.heap.size A n c l) :
    Calls Try.prog 8 #[.slice A n c] w (TruePost w) := by
  have hnm : n ≤ 9223372036854775807 := by have h1 := h.2.1; have h2 := h.2.2.1; unfold maxLen at h2; omega
  have HNL := Lib.hid h.1
  by_cases hbig : 1600 < n
  · go_enter Try.func8, Try.ntmps8
    go_wp2_with fail
    refine (awake13_any w).mono ?_
    rintro e w1 ⟨rfl, q1⟩
    go_wp2_with fail
    go_ret
    exact ⟨rfl, q1⟩
  · obtain ⟨r, hr⟩ : ∃ r, getM l = r := ⟨_, rfl⟩
    have HR := Lib.hid hr
    clear hr
    obtain ⟨⟨hd, os⟩, er⟩ := r
    have hos : os.length ≤ 1600 := getM_os l hd os er HR.out (by have := HNL.out; omega)
    have HOS := Lib.hid hos
    clear hos
    have hll : l.length ≤ 1600 := by have := HNL.out; omega
    go_enter Try.func8, Try.ntmps8
    go_wp2_with fail
    refine (awake13_any w).mono ?_
    rintro e w1 ⟨rfl, q1⟩
    have h1 := (h.below q1).more q1.size
    go_wp2_with (at_builtin; go_must (refine app8 rfl _ _ rfl w1.heap.size _ 0 0 [] rfl (OB.empty w1 _ _ _ rfl (Nat.le_refl _) rfl) w1.heap.size A n c l rfl (h1.alloc (Nat.le_refl _) _) (by simp; omega) (by simp) ?_))
    intro A2 n2 c2 w2 ho2 hb2 _
    have q2 := q1.trans ((((Below.refl _ w1).alloc (Nat.le_refl _) (.cells #[] 5)).trans hb2).mono q1.size)
    have h2 := (h.below q2).more q2.size
    have hn2 : n2 = l.length := ho2.1
    have HN2 := Lib.hid hn2
    clear hn2 h1 hb2
    go_wp2_with fail
    refine (dget_any w2 A2 n2 c2 l ho2.bs (by have := HN2.out; omega)).mono ?_
    rw [HR.out]
    rintro e w3 ⟨A3, n3, c3, l3, rfl, ho3, hl3, hb3⟩
    have HL3 := Lib.hid hl3
    have q3 := q2.trans (hb3.mono q2.size)
    have h3 := (h2.below hb3).more hb3.size
    clear hl3 hb3 ho2 h2
    go_upto_region 6 with ((with_reducible apply at_store_new 56); (case hx => exact rfl); (case hy => exact rfl); (case hg => first | rfl | simp); (case hi => kernel_rfl); (case hold => rfl); (case h1 => kernel_rfl))
    have P4 := heap_alloc_new w3 (.cells (msC hd A3 n3 c3) 56)
    have o4 := OS.step1 ho3 (.cells (msC hd A3 n3 c3) 56)
    have q4 := q3.alloc q3.size (.cells (msC hd A3 n3 c3) 56)
    have h4 := h3.step1 (.cells (msC hd A3 n3 c3) 56)
    clear ho3 h3 q3
    generalize w3.alloc (.cells (msC hd A3 n3 c3) 56) = w4 at P4 o4 q4 h4 ⊢
    obtain ⟨g, hg⟩ : ∃ g, w3.heap.size = g := ⟨_, rfl⟩
    rw [hg] at P4 ⊢
    clear hg
    go_wp2_with fail
    refine (rget_any_m w4 A n c l h4 (by omega)).mono ?_
    rw [HR.out]
    rintro e w5 ⟨A5, n5, c5, l5, rfl, ho5, hl5, hb5⟩
    have HL5 := Lib.hid hl5
    have q5 := q4.trans (hb5.mono q4.size)
    have P5 := below_at hb5 P4 (heap_lt P4)
    have o5 := (o4.below hb5).more hb5.size
    clear hl5 hb5 P4 o4 q4 h4
    go_upto_region 7 with ((with_reducible apply at_store_new 62); (case hx => exact rfl); (case hy => exact rfl); (case hg => first | rfl | simp); (case hi => kernel_rfl); (case hold => rfl); (case h1 => kernel_rfl))
    have PN := heap_alloc_new w5 (.cells (msC hd A5 n5 c5) 62)
    have PM := heap_alloc_of (o := .cells (msC hd A5 n5 c5) 62) P5
    have o6 := OS.step1 o5 (.cells (msC hd A5 n5 c5) 62)
    have o7 := OS.step1 ho5 (.cells (msC hd A5 n5 c5) 62)
    have q6 := q5.alloc q5.size (.cells (msC hd A5 n5 c5) 62)
    clear P5 o5 ho5 q5
    generalize w5.alloc (.cells (msC hd A5 n5 c5) 62) = w6 at PN PM o6 o7 q6 ⊢
    obtain ⟨x, hx⟩ : ∃ x, w5.heap.size = x := ⟨_, rfl⟩
    rw [hx] at PN ⊢
    clear hx
    have r6 : Below w6.heap.size w6 w6.drew := (Below.refl _ _).drew
    have C4 := Ext.at_ (M := fun k => w6.heap.size ≤ k) (w := w6.drew) PM (by have := heap_lt PM; omega)
    have C6 := Ext.at_ (M := fun k => w6.heap.size ≤ k) (w := w6.drew) PN (by have := heap_lt PN; omega)
    have hll3 : l3.length ≤ 1099511627776 := by rw [← obs_length, HL3.out]; have := HOS.out; omega
    refine rg_begin (fun k => w6.heap.size ≤ k) (by kernel_rfl) ?_
    refine rg_take (v := ?_) 0 rfl (by kernel_rfl) (by kernel_rfl) (by kernel_rfl) (fun _ _ _ h => h) (by rfl) ?_ ?_; rotate_left
    · (intro x hx; go_simp; first | done | with_reducible rfl | (rw [if_pos (by omega)]; try with_reducible rfl) | (rw [if_neg (by omega)]; try with_reducible rfl))
    try simp only [Act.put, List.setIfInBounds_toArray, List.set_cons_zero, List.set_cons_succ]
    refine rg_take (v := ?_) 1 rfl (by kernel_rfl) (by kernel_rfl) (by kernel_rfl) (fun _ _ _ h => h) (by rfl) ?_ ?_; rotate_left
    · (intro x hx; go_simp; first | done | with_reducible rfl | (rw [if_pos (by omega)]; try with_reducible rfl) | (rw [if_neg (by omega)]; try with_reducible rfl))
    try simp only [Act.put, List.setIfInBounds_toArray, List.set_cons_zero, List.set_cons_succ]
    refine rg_take (v := ?_) 2 rfl (by kernel_rfl) (by kernel_rfl) (by kernel_rfl) (fun _ _ _ h => h) (by rfl) ?_ ?_; rotate_left
    · (intro x hx; go_simp; first | done | with_reducible rfl | (rw [if_pos (by omega)]; try with_reducible rfl) | (rw [if_neg (by omega)]; try with_reducible rfl))
    try simp only [Act.put, List.setIfInBounds_toArray, List.set_cons_zero, List.set_cons_succ]
    refine rg_take (v := ?_) 3 rfl (by kernel_rfl) (by kernel_rfl) (by kernel_rfl) (fun _ _ _ h => h) (by rfl) ?_ ?_; rotate_left
    · (intro x hx; go_simp; first | done | with_reducible rfl | (rw [if_pos (by omega)]; try with_reducible rfl) | (rw [if_neg (by omega)]; try with_reducible rfl))
    try simp only [Act.put, List.setIfInBounds_toArray, List.set_cons_zero, List.set_cons_succ]
    refine rg_take (v := .agg (msC hd A3 n3 c3)) 4 rfl (by kernel_rfl) (by kernel_rfl) (by kernel_rfl) (fun _ _ _ h => h) (by rfl) ?_ ?_
    · (intro x hx; apply run_load_big; (case ho => exact rfl); (case hv => exact rfl); (case hg => exact C4 x hx); (case hu => exact Try.underlying56); (case hd => rfl); (case hi => kernel_rfl))
    try simp only [Act.put, List.setIfInBounds_toArray, List.set_cons_zero, List.set_cons_succ]
    refine rg_take (v := .agg (msC hd A5 n5 c5)) 6 rfl (by kernel_rfl) (by kernel_rfl) (by kernel_rfl) (fun _ _ _ h => h) (by rfl) ?_ ?_
    · (intro x hx; apply run_load_big; (case ho => exact rfl); (case hv => exact rfl); (case hg => exact C6 x hx); (case hu => exact Try.underlying62); (case hd => rfl); (case hi => kernel_rfl))
    try simp only [Act.put, List.setIfInBounds_toArray, List.set_cons_zero, List.set_cons_succ]
    refine rg_step 5 rfl (by kernel_rfl) (by rfl) (fun K hK => ?_)
    go_simp
    refine (own13_any _ hd A3 n3 c3 l3 ((o6.below r6).more r6.size) hll3).mono ?_
    rintro e w7 ⟨A7, n7, c7, rfl, ho7, hb7⟩
    have r7 := r6.trans (hb7.mono r6.size)
    refine hK.out _ _ (Ext.below_all _ hb7) ?_
    clear hK K; try simp only [Act.put, List.setIfInBounds_toArray, List.set_cons_zero, List.set_cons_succ]
    refine rg_step 7 rfl (by kernel_rfl) (by rfl) (fun K hK => ?_)
    go_simp
    refine (same13_eq _ hd A7 n7 c7 l3 ho7 A5 n5 c5 l5 ((o7.below r7).more r7.size) hll3 (by rw [HL3.out, HL5.out])).mono ?_
    rintro e w8 ⟨rfl, hb8⟩
    have r8 := r7.trans (hb8.mono r7.size)
    refine hK.out _ _ (Ext.below_all _ hb8) ?_
    clear hK K; try simp only [Act.put, List.setIfInBounds_toArray, List.set_cons_zero, List.set_cons_succ]
    refine rg_take (v := ?_) 8 rfl (by kernel_rfl) (by kernel_rfl) (by kernel_rfl) (fun _ _ _ h => h) (by rfl) ?_ ?_; rotate_left
    · (intro x hx; go_simp; first | done | with_reducible rfl | (rw [if_pos (by omega)]; try with_reducible rfl) | (rw [if_neg (by omega)]; try with_reducible rfl))
    try simp only [Act.put, List.setIfInBounds_toArray, List.set_cons_zero, List.set_cons_succ]
    refine rg_take (v := ?_) 9 rfl (by kernel_rfl) (by kernel_rfl) (by kernel_rfl) (fun _ _ _ h => h) (by rfl) ?_ ?_; rotate_left
    · (intro x hx; go_simp; first | done | with_reducible rfl | (rw [if_pos (by omega)]; try with_reducible rfl) | (rw [if_neg (by omega)]; try with_reducible rfl))
    try simp only [Act.put, List.setIfInBounds_toArray, List.set_cons_zero, List.set_cons_succ]
    refine rg_done (by kernel_rfl) ?_
    go_wp2_with fail
    go_ret
    exact ⟨rfl, q6.trans (r8.mono q6.size)⟩
end Go.Proofs.Ytidohmcneoldcaa
