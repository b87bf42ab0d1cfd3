/-
  Contracts of the reference's PutFrame, Group, Mine, and of the statements' own and same.
-/
import Derived.Test.YtjmeehmbccilkaaRef4b
namespace Go.Proofs.Ytjmeehmbccilkaa
open Go.RowKit

set_option maxRecDepth 100000 in
set_option maxHeartbeats 1000000 in
theorem rput_long (w : World) (t f : Mac6) (k : Int) (A : Option Addr) (n c : Nat) (l : List UInt8) (h : BS w w.heap.size A n c l) (hn : 1500 < n) (hmx : n ≤ 9223372036854775807) :
    Calls Try.prog 18 #[frV t f k A n c] w (BytesErrPost w (putFr ⟨t, f, k, l⟩)) := by
  have e1 : putFr ⟨t, f, k, l⟩ = ([], 2) := by rw [putFr, if_pos (by have := h.1; simp only; omega)]
  rw [e1]
  clear e1 h
  go_enter Try.func18, Try.ntmps18
  go_wp2_with fail
  go_ret2
  exact ⟨none, 0, 0, rfl, OB.nil_ _ _, by go_grown⟩

set_option maxRecDepth 100000 in
set_option maxHeartbeats 1000000 in
theorem rput_arg (w : World) (t f : Mac6) (k : Int) (A : Option Addr) (n c : Nat) (l : List UInt8) (h : BS w w.heap.size A n c l) (hn : n ≤ 1500) (hk : k < 0 ∨ 65535 < k) :
    Calls Try.prog 18 #[frV t f k A n c] w (BytesErrPost w (putFr ⟨t, f, k, l⟩)) := by
  have e1 : putFr ⟨t, f, k, l⟩ = ([], 1) := by rw [putFr, if_neg (by have := h.1; simp only; omega), if_pos hk]
  rw [e1]
  clear e1 h
  rcases hk with hk | hk
  · go_enter Try.func18, Try.ntmps18
    go_wp2_with fail
    go_ret2
    exact ⟨none, 0, 0, rfl, OB.nil_ _ _, by go_grown⟩
  · go_enter Try.func18, Try.ntmps18
    go_wp2_with fail
    go_ret2
    exact ⟨none, 0, 0, rfl, OB.nil_ _ _, by go_grown⟩

set_option maxRecDepth 100000 in
set_option maxHeartbeats 1000000 in
theorem rput_ok (w : World) (t f : Mac6) (k : Int) (A : Option Addr) (n c : Nat) (l : List UInt8) (h : BS w w.heap.size A n c l) (hn : n ≤ 1500) (hk0 : 0 ≤ k) (hk1 : k ≤ 65535) :
    Calls Try.prog 18 #[frV t f k A n c] w (BytesErrPost w (putFr ⟨t, f, k, l⟩)) := by
  have hl := h.1
  have hll : l.length ≤ 1500 := by omega
  have e1 : putFr ⟨t, f, k, l⟩ = (t.bytes ++ f.bytes ++ b16 k ++ l, 0) := by rw [putFr, if_neg (by simp only; omega), if_neg (by simp only; omega)]
  rw [e1]
  clear e1 hl
  go_enter Try.func18, Try.ntmps18
  go_wp2_with fail
  refine rg_begin (fun k => w.heap.size < k) (by kernel_rfl) ?_
  refine rg_take (v := ?_) 0 rfl (by kernel_rfl) (by kernel_rfl) (by kernel_rfl) (fun _ _ _ h => h) (by rfl) ?_ ?_; rotate_left
  · (intro x hx; go_simp; first | done | with_reducible rfl | (rw [if_pos (by omega)]; try with_reducible rfl))
  try simp only [Act.put, List.setIfInBounds_toArray, List.set_cons_zero, List.set_cons_succ]
  refine rg_take (v := ?_) 1 rfl (by kernel_rfl) (by kernel_rfl) (by kernel_rfl) (fun _ _ _ h => h) (by rfl) ?_ ?_; rotate_left
  · (intro x hx; go_simp; first | done | with_reducible rfl | (rw [if_pos (by omega)]; try with_reducible rfl))
  try simp only [Act.put, List.setIfInBounds_toArray, List.set_cons_zero, List.set_cons_succ]
  refine rg_take (v := ?_) 3 rfl (by kernel_rfl) (by kernel_rfl) (by kernel_rfl) (fun _ _ _ h => h) (by rfl) ?_ ?_; rotate_left
  · (intro x hx; go_simp; first | done | with_reducible rfl | (rw [if_pos (by omega)]; try with_reducible rfl))
  try simp only [Act.put, List.setIfInBounds_toArray, List.set_cons_zero, List.set_cons_succ]
  refine rg_take (v := ?_) 4 rfl (by kernel_rfl) (by kernel_rfl) (by kernel_rfl) (fun _ _ _ h => h) (by rfl) ?_ ?_; rotate_left
  · (intro x hx; go_simp; first | done | with_reducible rfl | (rw [if_pos (by omega)]; try with_reducible rfl))
  try simp only [Act.put, List.setIfInBounds_toArray, List.set_cons_zero, List.set_cons_succ]
  refine rg_step 2 rfl (by kernel_rfl) (by rfl) (fun K hK => ?_)
  go_simp
  refine (rfcopied_any _ _ 6 6 t.bytes ?hbs (by simp [Mac6.bytes])).mono ?_
  case hbs => exact ((BS.part (t := 35) (fr := (0, 0)) t.bytes 6 (heap_alloc_at rfl) rfl (by simp [Mac6.bytes]) (by simp [maxLen])).more (by simp))
  rintro e w1 ⟨A1, n1, c1, rfl, ho1, hb1⟩
  have hbox1 := (hb1.block w.heap.size (by simp)).trans (heap_alloc_at rfl)
  have ho1' : OB w1 (w.heap.size + 1) A1 n1 c1 t.bytes := ho1.lower (by simp)
  refine hK.out _ _ (Ext.below_all _ hb1) ?_
  clear hK K; try simp only [Act.put, List.setIfInBounds_toArray, List.set_cons_zero, List.set_cons_succ]
  refine rg_step 5 rfl (by kernel_rfl) (by rfl) (fun K hK => ?_)
  refine wp_app8 _ _ 0 0 rfl (w.heap.size + 1) _ n1 c1 _ rfl ho1' (w.heap.size + 1) _ 6 6 f.bytes rfl
    (BS.part (t := 35) (fr := (0, 0)) f.bytes 6 hbox1 rfl (by simp [Mac6.bytes]) (by simp [maxLen])) (by simp [Mac6.bytes]) (by have := hb1.size; simp at this; omega) ?_
  intro A2 n2 c2 w2 ho2 hb2 hg2
  refine hK.out _ _ (Ext.of_below _ hb2 fun k hk _ => by omega) ?_
  clear hK K; try simp only [Act.put, List.setIfInBounds_toArray, List.set_cons_zero, List.set_cons_succ]
  refine rg_take (v := ?_) 6 rfl (by kernel_rfl) (by kernel_rfl) (by kernel_rfl) (fun _ _ _ h => h) (by rfl) ?_ ?_; rotate_left
  · (intro x hx; go_simp; first | done | with_reducible rfl | (rw [if_pos (by omega)]; try with_reducible rfl))
  try simp only [Act.put, List.setIfInBounds_toArray, List.set_cons_zero, List.set_cons_succ]
  refine rg_done (by kernel_rfl) ?_
  have hbox2 := (hb2.block w.heap.size (by omega)).trans hbox1
  have z1 := hb1.size
  have z2 := hb2.size
  simp at z1
  have q1 : Below w.heap.size w w1 := ((Below.refl _ w).alloc (Nat.le_refl _) _).drew.trans (hb1.mono (by simp))
  have q2 : Below w.heap.size w w2 := q1.trans (hb2.mono (by omega))
  have hl2 := h.below q2
  obtain ⟨k2, f2⟩ := cells_of hbox2
  have HB := Lib.hid hbox2
  clear hbox1 hbox2 hg2 hb1
  go_wp2_with fail
  refine rg_begin (fun k => w.heap.size < k) (by kernel_rfl) ?_
  have C2 := Ext.cells (M := fun k => w.heap.size < k) (w := w2.drew) HB.out (by omega)
  refine rg_take (v := ?_) 0 rfl (by kernel_rfl) (by kernel_rfl) (by kernel_rfl) (fun _ _ _ h => h) (by rfl) ?_ ?_; rotate_left
  · (intro x hx; go_simp; first | done | with_reducible rfl | (rw [if_pos (by omega)]; try with_reducible rfl))
  try simp only [Act.put, List.setIfInBounds_toArray, List.set_cons_zero, List.set_cons_succ]
  refine rg_take (v := ?_) 1 rfl (by kernel_rfl) (by kernel_rfl) (by kernel_rfl) (fun _ _ _ h => h) (by rfl) ?_ ?_; rotate_left
  · (intro x hx; go_simp; first | done | with_reducible rfl | (rw [if_pos (by omega)]; try with_reducible rfl))
  try simp only [Act.put, List.setIfInBounds_toArray, List.set_cons_zero, List.set_cons_succ]
  refine rg_take (v := ?_) 2 rfl (by kernel_rfl) (by kernel_rfl) (by kernel_rfl) (fun _ _ _ h => h) (by rfl) ?_ ?_; rotate_left
  · (intro x hx; go_simp; first | done | with_reducible rfl | (rw [if_pos (by omega)]; try with_reducible rfl))
  try simp only [Act.put, List.setIfInBounds_toArray, List.set_cons_zero, List.set_cons_succ]
  refine rg_take (v := ?_) 4 rfl (by kernel_rfl) (by kernel_rfl) (by kernel_rfl) (fun _ _ _ h => h) (by rfl) ?_ ?_; rotate_left
  · (intro x hx; go_simp; first | done | with_reducible rfl | (rw [if_pos (by omega)]; try with_reducible rfl))
  try simp only [Act.put, List.setIfInBounds_toArray, List.set_cons_zero, List.set_cons_succ]
  refine rg_take (v := ?_) 5 rfl (by kernel_rfl) (by kernel_rfl) (by kernel_rfl) (fun _ _ _ h => h) (by rfl) ?_ ?_; rotate_left
  · (intro x hx; go_simp; first | done | with_reducible rfl | (rw [if_pos (by omega)]; try with_reducible rfl))
  try simp only [Act.put, List.setIfInBounds_toArray, List.set_cons_zero, List.set_cons_succ]
  refine rg_step 3 rfl (by kernel_rfl) (by rfl) (fun K hK => ?_)
  go_simp
  refine (rw16_post _ A2 n2 c2 _ k ho2.bs.drew (by simp [Mac6.bytes])).mono ?_
  rintro e w3 ⟨A3, n3, c3, rfl, ho3, hb3⟩
  have C3 := Ext.cells (M := fun k => w.heap.size < k) ((hb3.block w.heap.size (by simp; omega)).trans HB.out) (by omega)
  clear C2
  refine hK.out _ _ (Ext.below_all _ hb3) ?_
  clear hK K; try simp only [Act.put, List.setIfInBounds_toArray, List.set_cons_zero, List.set_cons_succ]
  refine rg_step 6 rfl (by kernel_rfl) (by rfl) (fun K hK => ?_)
  refine wp_app8 _ _ 0 0 rfl _ _ n3 c3 _ rfl ho3 w.heap.size A n c l rfl (hl2.drew.below (hb3.mono (by simp; omega))) (by simp [Mac6.bytes, b16]; omega) hb3.size ?_
  intro A4 n4 c4 w4 ho4 hb4 hg4
  refine hK.out _ _ (Ext.of_below _ hb4 fun k hk _ => by simp at hk; omega) ?_
  clear hK K; try simp only [Act.put, List.setIfInBounds_toArray, List.set_cons_zero, List.set_cons_succ]
  refine rg_take (v := ?_) 7 rfl (by kernel_rfl) (by kernel_rfl) (by kernel_rfl) (fun _ _ _ h => h) (by rfl) ?_ ?_; rotate_left
  · (intro x hx; go_simp; first | done | with_reducible rfl | (rw [if_pos (by omega)]; try with_reducible rfl))
  try simp only [Act.put, List.setIfInBounds_toArray, List.set_cons_zero, List.set_cons_succ]
  refine rg_take (v := ?_) 8 rfl (by kernel_rfl) (by kernel_rfl) (by kernel_rfl) (fun _ _ _ h => h) (by rfl) ?_ ?_; rotate_left
  · (intro x hx; go_simp; first | done | with_reducible rfl | (rw [if_pos (by omega)]; try with_reducible rfl))
  try simp only [Act.put, List.setIfInBounds_toArray, List.set_cons_zero, List.set_cons_succ]
  refine rg_done (by kernel_rfl) ?_
  go_wp2_with fail
  go_ret2
  refine ⟨A4, n4, c4, rfl, ho4.lower (by simp; omega), ?_⟩
  exact (q2.drew.trans (hb3.mono (by simp; omega))).trans (hb4.mono (by simp; omega))

set_option maxHeartbeats 400000 in
theorem rgroup_any (w : World) (m : Mac6) : Calls Try.prog 21 #[macV m] w (ValPost w (.bool (grp m))) := by
  have h1 := m.a.toNat_lt
  go_enter Try.func21, Try.ntmps21
  go_wp2
  go_ret
  have e1 : ((m.a.toNat : Int) % 2 == 1) = grp m := by
    unfold grp; rw [Bool.eq_iff_iff]; simp only [beq_iff_eq]; omega
  exact ⟨by rw [← e1]; rfl, by go_grown⟩

set_option maxRecDepth 100000 in
set_option maxHeartbeats 400000 in
theorem rmine_any (w : World) (m o : Mac6) : Calls Try.prog 22 #[macV m, macV o] w (ValPost w (.bool (meq m o || grp m))) := by
  have he := fun w => run_eql_mac w m o
  cases hm : meq m o
  · rw [hm] at he
    go_enter Try.func22, Try.ntmps22
    go_wp2_with fail
    refine (rgroup_any _ m).mono ?_
    rintro e w1 ⟨rfl, hb⟩
    go_wp2_with fail
    go_ret
    exact ⟨rfl, ((Below.refl _ w).alloc (Nat.le_refl _) _ |>.alloc (by simp) _).trans (hb.mono (by simp; omega))⟩
  · rw [hm] at he
    go_enter Try.func22, Try.ntmps22
    go_wp2_with fail
    go_ret
    exact ⟨rfl, by go_grown⟩

set_option maxRecDepth 100000 in
set_option maxHeartbeats 400000 in
theorem own4_any (w : World) (t f : Mac6) (k : Int) (A : Option Addr) (n c : Nat) : Calls Try.prog 19 #[frV t f k A n c] w (ValPost w (frV t f k A n c)) := by
  go_enter Try.func19, Try.ntmps19
  go_wp2_with fail
  refine bodyPost_ret (v := frV t f k A n c) (by simp [results, Try.results19, go_sem]) rfl ?_
  exact ⟨rfl, by go_grown⟩

set_option maxRecDepth 100000 in
set_option maxHeartbeats 1000000 in
theorem same4_eq (w : World) (t f : Mac6) (k : Int) (A A' : Option Addr) (n n' c c' : Nat) (l : List UInt8) (h : BS w w.heap.size A n c l) (h' : BS w w.heap.size A' n' c' l) :
    Calls Try.prog 20 #[frV t f k A n c, frV t f k A' n' c'] w (TruePost w) := by
  have e1 := fun w => run_eql_mac w t t
  have e2 := fun w => run_eql_mac w f f
  rw [(meq_iff t t).2 rfl] at e1
  rw [(meq_iff f f).2 rfl] at e2
  have x1 : ∀ o o', (convert 25 9 (.slice A n c)).run Try.prog ((w.alloc o).alloc o') = .ok (.string (str l)) ((w.alloc o).alloc o') := fun o o' => run_str ((h.alloc (Nat.le_refl _) _).alloc (by simp) _)
  have x2 : ∀ o o', (convert 25 9 (.slice A' n' c')).run Try.prog ((w.alloc o).alloc o') = .ok (.string (str l)) ((w.alloc o).alloc o') := fun o o' => run_str ((h'.alloc (Nat.le_refl _) _).alloc (by simp) _)
  go_enter Try.func20, Try.ntmps20
  go_wp2_with fail
  go_ret
  exact ⟨rfl, by go_grown⟩
end Go.Proofs.Ytjmeehmbccilkaa
