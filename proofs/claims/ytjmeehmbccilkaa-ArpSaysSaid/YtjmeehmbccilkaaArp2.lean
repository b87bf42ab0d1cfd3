/-
  Contract of arp.Put.
-/
import Derived.Test.YtjmeehmbccilkaaArp1
namespace Go.Proofs.Ytjmeehmbccilkaa
open Go.RowKit

set_option maxRecDepth 100000 in
set_option maxHeartbeats 1000000 in
theorem aput_arg (w : World) (p : Pk) (hp : ¬ (p.op = 1 ∨ p.op = 2)) :
    Calls Try.prog 25 #[pkV p] w (BytesErrPost w (putPk p)) := by
  have e1 : putPk p = ([], 1) := if_neg hp
  rw [e1]
  clear e1
  obtain ⟨op, fm, fr, tm, ta⟩ := p
  have h1 : op ≠ 1 := fun e => hp (.inl e)
  have h2 : op ≠ 2 := fun e => hp (.inr e)
  have b1 : (op != 1) = true := bne_iff_ne.2 h1
  have b2 : (op != 2) = true := bne_iff_ne.2 h2
  clear hp
  go_enter Try.func25, Try.ntmps25
  go_wp2_with fail
  go_ret2
  exact ⟨none, 0, 0, rfl, OB.nil_ _ _, by go_grown⟩

set_option maxRecDepth 100000 in
set_option maxHeartbeats 2000000 in
theorem aput_ok (w : World) (p : Pk) (hp : p.op = 1 ∨ p.op = 2) :
    Calls Try.prog 25 #[pkV p] w (BytesErrPost w (putPk p)) := by
  have e1 : putPk p = (pkB p, 0) := if_pos hp
  rw [e1]
  clear e1
  obtain ⟨op, fm, fr, tm, ta⟩ := p
  simp only at hp
  have C0 := Ext.cells (M := fun k => w.heap.size < k) (w := (w.alloc (.cells (pkC ⟨op, fm, fr, tm, ta⟩) 48)).drew) (heap_alloc_at rfl) (by omega)
  rcases hp with rfl | rfl
  all_goals
    go_enter Try.func25, Try.ntmps25
    go_wp2_with fail
    refine rg_begin (fun k => w.heap.size < k) (by kernel_rfl) ?_
    refine rg_take (v := ?_) 1 rfl (by kernel_rfl) (by kernel_rfl) (by kernel_rfl) (fun _ _ _ h => h) (by rfl) ?_ ?_; rotate_left
    · (intro x hx; go_simp; first | done | with_reducible rfl | (rw [if_pos (by omega)]; try with_reducible rfl))
    try simp only [Act.put, List.setIfInBounds_toArray, List.set_cons_zero, List.set_cons_succ]
    refine rg_take (v := ?_) 2 rfl (by kernel_rfl) (by kernel_rfl) (by kernel_rfl) (fun _ _ _ h => h) (by rfl) ?_ ?_; rotate_left
    · (intro x hx; go_simp; first | done | with_reducible rfl | (rw [if_pos (by omega)]; try with_reducible rfl))
    try simp only [Act.put, List.setIfInBounds_toArray, List.set_cons_zero, List.set_cons_succ]
    refine rg_step 0 rfl (by kernel_rfl) (by rfl) (fun K hK => ?_)
    go_simp
    refine (head_any _).mono ?_
    rintro e w1 ⟨A1, n1, c1, rfl, ho1, hb1⟩
    have hbox1 := (hb1.block w.heap.size (by simp)).trans (heap_alloc_at rfl)
    have C1 := Ext.cells (M := fun k => w.heap.size < k) hbox1 (by omega)
    clear C0
    refine hK.out _ _ (Ext.below_all _ hb1) ?_
    clear hK K; try simp only [Act.put, List.setIfInBounds_toArray, List.set_cons_zero, List.set_cons_succ]
    refine rg_step 3 rfl (by kernel_rfl) (by rfl) (fun K hK => ?_)
    go_simp
    refine (w16_post _ A1 n1 c1 _ _ ho1.bs (by simp [head6])).mono ?_
    rintro e w2 ⟨A2, n2, c2, rfl, ho2, hb2⟩
    clear C1
    refine hK.out _ _ (Ext.below_all _ hb2) ?_
    clear hK K; try simp only [Act.put, List.setIfInBounds_toArray, List.set_cons_zero, List.set_cons_succ]
    refine rg_take (v := ?_) 4 rfl (by kernel_rfl) (by kernel_rfl) (by kernel_rfl) (fun _ _ _ h => h) (by rfl) ?_ ?_; rotate_left
    · (intro x hx; go_simp; first | done | with_reducible rfl | (rw [if_pos (by omega)]; try with_reducible rfl))
    try simp only [Act.put, List.setIfInBounds_toArray, List.set_cons_zero, List.set_cons_succ]
    refine rg_done (by kernel_rfl) ?_
    have z1 := hb1.size
    simp at z1
    have z2 := hb2.size
    have q1 : Below w.heap.size w w1 := ((Below.refl _ w).alloc (Nat.le_refl _) _).drew.trans (hb1.mono (by simp))
    have q2 : Below w.heap.size w w2 := q1.trans (hb2.mono (by omega))
    have hbox2 := (hb2.block w.heap.size (by omega)).trans hbox1
    have ho2' : OB w2.drew (w.heap.size + 1) A2 n2 c2 _ := ho2.lower (by omega)
    have HB1 := Lib.hid hb1
    clear hb1 hb2 hbox1 ho2
    go_wp2_with fail
    refine rg_begin (fun k => w.heap.size < k) (by kernel_rfl) ?_
    refine rg_take (v := ?_) 0 rfl (by kernel_rfl) (by kernel_rfl) (by kernel_rfl) (fun _ _ _ h => h) (by rfl) ?_ ?_; rotate_left
    · (intro x hx; go_simp; first | done | with_reducible rfl | (rw [if_pos (by omega)]; try with_reducible rfl))
    try simp only [Act.put, List.setIfInBounds_toArray, List.set_cons_zero, List.set_cons_succ]
    refine rg_take (v := ?_) 1 rfl (by kernel_rfl) (by kernel_rfl) (by kernel_rfl) (fun _ _ _ h => h) (by rfl) ?_ ?_; rotate_left
    · (intro x hx; go_simp; first | done | with_reducible rfl | (rw [if_pos (by omega)]; try with_reducible rfl))
    try simp only [Act.put, List.setIfInBounds_toArray, List.set_cons_zero, List.set_cons_succ]
    refine rg_take (v := ?_) 2 rfl (by kernel_rfl) (by kernel_rfl) (by kernel_rfl) (fun _ _ _ h => h) (by rfl) ?_ ?_; rotate_left
    · (intro x hx; go_simp; first | done | with_reducible rfl | (rw [if_pos (by omega)]; try with_reducible rfl))
    try simp only [Act.put, List.setIfInBounds_toArray, List.set_cons_zero, List.set_cons_succ]
    refine rg_take (v := ?_) 4 rfl (by kernel_rfl) (by kernel_rfl) (by kernel_rfl) (fun _ _ _ h => h) (by rfl) ?_ ?_; rotate_left
    · (intro x hx; go_simp; first | done | with_reducible rfl | (rw [if_pos (by omega)]; try with_reducible rfl))
    try simp only [Act.put, List.setIfInBounds_toArray, List.set_cons_zero, List.set_cons_succ]
    refine rg_take (v := ?_) 5 rfl (by kernel_rfl) (by kernel_rfl) (by kernel_rfl) (fun _ _ _ h => h) (by rfl) ?_ ?_; rotate_left
    · (intro x hx; go_simp; first | done | with_reducible rfl | (rw [if_pos (by omega)]; try with_reducible rfl))
    try simp only [Act.put, List.setIfInBounds_toArray, List.set_cons_zero, List.set_cons_succ]
    refine rg_step 3 rfl (by kernel_rfl) (by rfl) (fun K hK => ?_)
    refine wp_app8 _ _ 0 0 rfl (w.heap.size + 1) _ n2 c2 _ rfl ho2' (w.heap.size + 1) _ 6 6 fm.bytes rfl
      (BS.part (t := 48) (fr := (0, 0)) fm.bytes 6 hbox2 rfl (by simp [Mac6.bytes]) (by simp [maxLen])) (by simp [Mac6.bytes, head6, b16]) (by simp; omega) ?_
    intro A3 n3 c3 w3 ho3 hb3 hg3
    have hbox3 := (hb3.block w.heap.size (by omega)).trans hbox2
    have z3 := hb3.size
    simp at z3
    refine hK.out _ _ (Ext.of_below _ hb3 fun k hk _ => by omega) ?_
    clear hK K; try simp only [Act.put, List.setIfInBounds_toArray, List.set_cons_zero, List.set_cons_succ]
    refine rg_step 6 rfl (by kernel_rfl) (by rfl) (fun K hK => ?_)
    refine wp_app8 _ _ 0 0 rfl (w.heap.size + 1) _ n3 c3 _ rfl ho3 (w.heap.size + 1) _ 4 4 fr.bytes rfl
      (BS.part (t := 48) (fr := (0, 0)) fr.bytes 4 hbox3 rfl (by simp [Ad4.bytes]) (by simp [maxLen])) (by simp [Mac6.bytes, head6, b16, Ad4.bytes]) (by omega) ?_
    intro A4 n4 c4 w4 ho4 hb4 hg4
    have hbox4 := (hb4.block w.heap.size (by omega)).trans hbox3
    have z4 := hb4.size
    refine hK.out _ _ (Ext.of_below _ hb4 fun k hk _ => by omega) ?_
    clear hK K; try simp only [Act.put, List.setIfInBounds_toArray, List.set_cons_zero, List.set_cons_succ]
    refine rg_take (v := ?_) 7 rfl (by kernel_rfl) (by kernel_rfl) (by kernel_rfl) (fun _ _ _ h => h) (by rfl) ?_ ?_; rotate_left
    · (intro x hx; go_simp; first | done | with_reducible rfl | (rw [if_pos (by omega)]; try with_reducible rfl))
    try simp only [Act.put, List.setIfInBounds_toArray, List.set_cons_zero, List.set_cons_succ]
    refine rg_done (by kernel_rfl) ?_
    have q4 : Below w.heap.size w w4 := (q2.drew.trans (hb3.mono (by omega))).trans (hb4.mono (by omega))
    have ho4' : OB w4.drew (w.heap.size + 1) A4 n4 c4 _ := ho4
    clear hbox2 hbox3 hb3 hb4 hg3 hg4 ho4 ho3
    go_wp2_with fail
    refine rg_begin (fun k => w.heap.size < k) (by kernel_rfl) ?_
    refine rg_take (v := ?_) 0 rfl (by kernel_rfl) (by kernel_rfl) (by kernel_rfl) (fun _ _ _ h => h) (by rfl) ?_ ?_; rotate_left
    · (intro x hx; go_simp; first | done | with_reducible rfl | (rw [if_pos (by omega)]; try with_reducible rfl))
    try simp only [Act.put, List.setIfInBounds_toArray, List.set_cons_zero, List.set_cons_succ]
    refine rg_take (v := ?_) 1 rfl (by kernel_rfl) (by kernel_rfl) (by kernel_rfl) (fun _ _ _ h => h) (by rfl) ?_ ?_; rotate_left
    · (intro x hx; go_simp; first | done | with_reducible rfl | (rw [if_pos (by omega)]; try with_reducible rfl))
    try simp only [Act.put, List.setIfInBounds_toArray, List.set_cons_zero, List.set_cons_succ]
    refine rg_take (v := ?_) 2 rfl (by kernel_rfl) (by kernel_rfl) (by kernel_rfl) (fun _ _ _ h => h) (by rfl) ?_ ?_; rotate_left
    · (intro x hx; go_simp; first | done | with_reducible rfl | (rw [if_pos (by omega)]; try with_reducible rfl))
    try simp only [Act.put, List.setIfInBounds_toArray, List.set_cons_zero, List.set_cons_succ]
    refine rg_take (v := ?_) 4 rfl (by kernel_rfl) (by kernel_rfl) (by kernel_rfl) (fun _ _ _ h => h) (by rfl) ?_ ?_; rotate_left
    · (intro x hx; go_simp; first | done | with_reducible rfl | (rw [if_pos (by omega)]; try with_reducible rfl))
    try simp only [Act.put, List.setIfInBounds_toArray, List.set_cons_zero, List.set_cons_succ]
    refine rg_take (v := ?_) 5 rfl (by kernel_rfl) (by kernel_rfl) (by kernel_rfl) (fun _ _ _ h => h) (by rfl) ?_ ?_; rotate_left
    · (intro x hx; go_simp; first | done | with_reducible rfl | (rw [if_pos (by omega)]; try with_reducible rfl))
    try simp only [Act.put, List.setIfInBounds_toArray, List.set_cons_zero, List.set_cons_succ]
    refine rg_step 3 rfl (by kernel_rfl) (by rfl) (fun K hK => ?_)
    refine wp_app8 _ _ 0 0 rfl (w.heap.size + 1) _ n4 c4 _ rfl ho4' (w.heap.size + 1) _ 6 6 tm.bytes rfl
      (BS.part (t := 48) (fr := (0, 0)) tm.bytes 6 hbox4 rfl (by simp [Mac6.bytes]) (by simp [maxLen])) (by simp [Mac6.bytes, head6, b16, Ad4.bytes]) (by simp; omega) ?_
    intro A5 n5 c5 w5 ho5 hb5 hg5
    have hbox5 := (hb5.block w.heap.size (by omega)).trans hbox4
    have z5 := hb5.size
    simp at z5
    refine hK.out _ _ (Ext.of_below _ hb5 fun k hk _ => by omega) ?_
    clear hK K; try simp only [Act.put, List.setIfInBounds_toArray, List.set_cons_zero, List.set_cons_succ]
    refine rg_step 6 rfl (by kernel_rfl) (by rfl) (fun K hK => ?_)
    refine wp_app8 _ _ 0 0 rfl (w.heap.size + 1) _ n5 c5 _ rfl ho5 (w.heap.size + 1) _ 4 4 ta.bytes rfl
      (BS.part (t := 48) (fr := (0, 0)) ta.bytes 4 hbox5 rfl (by simp [Ad4.bytes]) (by simp [maxLen])) (by simp [Mac6.bytes, head6, b16, Ad4.bytes]) (by omega) ?_
    intro A6 n6 c6 w6 ho6 hb6 hg6
    refine hK.out _ _ (Ext.of_below _ hb6 fun k hk _ => by omega) ?_
    clear hK K; try simp only [Act.put, List.setIfInBounds_toArray, List.set_cons_zero, List.set_cons_succ]
    refine rg_take (v := ?_) 7 rfl (by kernel_rfl) (by kernel_rfl) (by kernel_rfl) (fun _ _ _ h => h) (by rfl) ?_ ?_; rotate_left
    · (intro x hx; go_simp; first | done | with_reducible rfl | (rw [if_pos (by omega)]; try with_reducible rfl))
    try simp only [Act.put, List.setIfInBounds_toArray, List.set_cons_zero, List.set_cons_succ]
    refine rg_take (v := ?_) 8 rfl (by kernel_rfl) (by kernel_rfl) (by kernel_rfl) (fun _ _ _ h => h) (by rfl) ?_ ?_; rotate_left
    · (intro x hx; go_simp; first | done | with_reducible rfl | (rw [if_pos (by omega)]; try with_reducible rfl))
    try simp only [Act.put, List.setIfInBounds_toArray, List.set_cons_zero, List.set_cons_succ]
    refine rg_done (by kernel_rfl) ?_
    go_wp2_with fail
    go_ret2
    exact ⟨A6, n6, c6, rfl, ho6.lower (by omega), (q4.drew.trans (hb5.mono (by omega))).trans (hb6.mono (by omega))⟩
theorem aput_any (w : World) (p : Pk) : Calls Try.prog 25 #[pkV p] w (BytesErrPost w (putPk p)) := by
  by_cases hp : p.op = 1 ∨ p.op = 2
  · exact aput_ok w p hp
  · exact aput_arg w p hp
end Go.Proofs.Ytjmeehmbccilkaa
