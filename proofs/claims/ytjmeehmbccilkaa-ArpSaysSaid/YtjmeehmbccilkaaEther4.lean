/-
  Contract of ether.Put.
-/
import Derived.Test.YtjmeehmbccilkaaEther3
namespace Go.Proofs.Ytjmeehmbccilkaa
open Go.RowKit

/-- The bytes of a frame, and the error. -/
def putFr (f : Fr) : List UInt8 × Int :=
  if 1500 < f.body.length then ([], 2) else if f.typ < 0 ∨ 65535 < f.typ then ([], 1) else (f.dst.bytes ++ f.frm.bytes ++ b16 f.typ ++ f.body, 0)

def BytesErrPost (w : World) (r : List UInt8 × Int) (e : Ending) (w' : World) : Prop :=
  ∃ A n c, e = .returned (.tuple #[.slice A n c, .int .i64 r.2]) ∧ OB w' w.heap.size A n c r.1 ∧ Below w.heap.size w w'

set_option maxRecDepth 100000 in
set_option maxHeartbeats 1000000 in
theorem put_long (w : World) (t f : Mac6) (k : Int) (A : Option Addr) (n c : Nat) (l : List UInt8) (h : BS w w.heap.size A n c l) (hn : 1500 < n) (hmx : n ≤ 9223372036854775807) :
    Calls Try.prog 14 #[frV t f k A n c] w (BytesErrPost w (putFr ⟨t, f, k, l⟩)) := by
  have e1 : putFr ⟨t, f, k, l⟩ = ([], 2) := by rw [putFr, if_pos (by have := h.1; simp only; omega)]
  rw [e1]
  clear e1 h
  go_enter Try.func14, Try.ntmps14
  go_wp2_with fail
  go_ret2
  exact ⟨none, 0, 0, rfl, OB.nil_ _ _, by go_grown⟩

set_option maxRecDepth 100000 in
set_option maxHeartbeats 1000000 in
theorem put_arg (w : World) (t f : Mac6) (k : Int) (A : Option Addr) (n c : Nat) (l : List UInt8) (h : BS w w.heap.size A n c l) (hn : n ≤ 1500) (hk : k < 0 ∨ 65535 < k) :
    Calls Try.prog 14 #[frV t f k A n c] w (BytesErrPost w (putFr ⟨t, f, k, l⟩)) := by
  have e1 : putFr ⟨t, f, k, l⟩ = ([], 1) := by rw [putFr, if_neg (by have := h.1; simp only; omega), if_pos hk]
  rw [e1]
  clear e1 h
  rcases hk with hk | hk
  · go_enter Try.func14, Try.ntmps14
    go_wp2_with fail
    go_ret2
    exact ⟨none, 0, 0, rfl, OB.nil_ _ _, by go_grown⟩
  · go_enter Try.func14, Try.ntmps14
    go_wp2_with fail
    go_ret2
    exact ⟨none, 0, 0, rfl, OB.nil_ _ _, by go_grown⟩

set_option maxRecDepth 100000 in
set_option maxHeartbeats 1000000 in
theorem put_ok (w : World) (t f : Mac6) (k : Int) (A : Option Addr) (n c : Nat) (l : List UInt8) (h : BS w w.heap.size A n c l) (hn : n ≤ 1500) (hk0 : 0 ≤ k) (hk1 : k ≤ 65535) :
    Calls Try.prog 14 #[frV t f k A n c] w (BytesErrPost w (putFr ⟨t, f, k, l⟩)) := by
  have hl := h.1
  have hll : l.length ≤ 1500 := by omega
  have e1 : putFr ⟨t, f, k, l⟩ = (t.bytes ++ f.bytes ++ b16 k ++ l, 0) := by rw [putFr, if_neg (by simp only; omega), if_neg (by simp only; omega)]
  rw [e1]
  clear e1 hl
  go_enter Try.func14, Try.ntmps14
  go_wp2_with fail
  refine rg_begin (fun k => w.heap.size < k) (by kernel_rfl) ?_
  refine rg_take (v := ?_) 1 rfl (by kernel_rfl) (by kernel_rfl) (by kernel_rfl) (fun _ _ _ h => h) (by rfl) ?_ ?_; rotate_left
  · (intro x hx; go_simp; first | done | with_reducible rfl | (rw [if_pos (by omega)]; try with_reducible rfl))
  try simp only [Act.put, List.setIfInBounds_toArray, List.set_cons_zero, List.set_cons_succ]
  refine rg_take (v := ?_) 2 rfl (by kernel_rfl) (by kernel_rfl) (by kernel_rfl) (fun _ _ _ h => h) (by rfl) ?_ ?_; rotate_left
  · (intro x hx; go_simp; first | done | with_reducible rfl | (rw [if_pos (by omega)]; try with_reducible rfl))
  try simp only [Act.put, List.setIfInBounds_toArray, List.set_cons_zero, List.set_cons_succ]
  refine rg_take (v := ?_) 4 rfl (by kernel_rfl) (by kernel_rfl) (by kernel_rfl) (fun _ _ _ h => h) (by rfl) ?_ ?_; rotate_left
  · (intro x hx; go_simp; first | done | with_reducible rfl | (rw [if_pos (by omega)]; try with_reducible rfl))
  try simp only [Act.put, List.setIfInBounds_toArray, List.set_cons_zero, List.set_cons_succ]
  refine rg_take (v := ?_) 5 rfl (by kernel_rfl) (by kernel_rfl) (by kernel_rfl) (fun _ _ _ h => h) (by rfl) ?_ ?_; rotate_left
  · (intro x hx; go_simp; first | done | with_reducible rfl | (rw [if_pos (by omega)]; try with_reducible rfl))
  try simp only [Act.put, List.setIfInBounds_toArray, List.set_cons_zero, List.set_cons_succ]
  refine rg_step 0 rfl (by kernel_rfl) (by rfl) (fun K hK => ?_)
  go_simp
  refine hK.out _ _ ((Ext.refl _ _).alloc _) ?_
  clear hK K; try simp only [Act.put, List.setIfInBounds_toArray, List.set_cons_zero, List.set_cons_succ]
  refine rg_step 3 rfl (by kernel_rfl) (by rfl) (fun K hK => ?_)
  refine wp_app8 _ _ 0 0 rfl (w.heap.size + 1) _ 0 0 [] rfl (OB.empty _ _ _ _ (by simp) (Nat.le_refl _) rfl) (w.heap.size + 1) _ 6 6 t.bytes rfl
    (BS.part (t := 27) (fr := (0, 0)) t.bytes 6 (heap_alloc_of (heap_alloc_at rfl)) rfl (by simp [Mac6.bytes]) (by simp [maxLen])) (by simp [Mac6.bytes]) (by simp) ?_
  intro A1 n1 c1 w1 ho1 hb1 hg1
  have hbox1 := (hg1.block w.heap.size (by simp; omega) (by simp [Value.ownBlock])).trans (heap_alloc_of (heap_alloc_at rfl))
  refine hK.out _ _ (Ext.of_grown hg1 fun k hk => by simp [Value.ownBlock] at hk; omega) ?_
  clear hK K; try simp only [Act.put, List.setIfInBounds_toArray, List.set_cons_zero, List.set_cons_succ]
  refine rg_step 6 rfl (by kernel_rfl) (by rfl) (fun K hK => ?_)
  refine wp_app8 _ _ 0 0 rfl (w.heap.size + 1) _ n1 c1 _ rfl ho1 (w.heap.size + 1) _ 6 6 f.bytes rfl
    (BS.part (t := 27) (fr := (0, 0)) f.bytes 6 hbox1 rfl (by simp [Mac6.bytes]) (by simp [maxLen])) (by simp [Mac6.bytes]) (by have := hg1.size; simp at this; omega) ?_
  intro A2 n2 c2 w2 ho2 hb2 hg2
  refine hK.out _ _ (Ext.of_below _ hb2 fun k hk _ => by omega) ?_
  clear hK K; try simp only [Act.put, List.setIfInBounds_toArray, List.set_cons_zero, List.set_cons_succ]
  refine rg_take (v := ?_) 7 rfl (by kernel_rfl) (by kernel_rfl) (by kernel_rfl) (fun _ _ _ h => h) (by rfl) ?_ ?_; rotate_left
  · (intro x hx; go_simp; first | done | with_reducible rfl | (rw [if_pos (by omega)]; try with_reducible rfl))
  try simp only [Act.put, List.setIfInBounds_toArray, List.set_cons_zero, List.set_cons_succ]
  refine rg_done (by kernel_rfl) ?_
  rw [List.nil_append] at ho2
  have hbox2 := (hb2.block w.heap.size (by omega)).trans hbox1
  have z1 := hg1.size
  have z2 := hb2.size
  simp at z1
  have q1 : Below w.heap.size w w1 := ((((Below.refl _ w).alloc (Nat.le_refl _) _).drew.alloc (by simp) _).grown hg1 (by simp; omega) fun k hk => by simp [Value.ownBlock] at hk; omega)
  have q2 : Below w.heap.size w w2 := q1.trans (hb2.mono (by omega))
  have hl2 := h.below q2
  obtain ⟨k2, f2⟩ := cells_of hbox2
  have HB := Lib.hid hbox2
  have G1 := Lib.hid hg1
  clear hbox1 hbox2 hg1 hg2 hb1
  go_wp2_with fail
  refine rg_begin (fun k => w.heap.size < k) (by kernel_rfl) ?_
  have C2 := Ext.cells (M := fun k => w.heap.size < k) (w := w2.drew) HB.out (by omega)
  refine rg_take (v := ?_) 0 rfl (by kernel_rfl) (by kernel_rfl) (by kernel_rfl) (fun _ _ _ h => h) (by rfl) ?_ ?_; rotate_left
  · (intro x hx; go_simp; first | done | with_reducible rfl | (rw [if_pos (by omega)]; try with_reducible rfl))
  try simp only [Act.put, List.setIfInBounds_toArray, List.set_cons_zero, List.set_cons_succ]
  refine rg_take (v := ?_) 1 rfl (by kernel_rfl) (by kernel_rfl) (by kernel_rfl) (fun _ _ _ h => h) (by rfl) ?_ ?_; rotate_left
  · (intro x hx; go_simp; first | done | with_reducible rfl | (rw [if_pos (by omega)]; try with_reducible rfl))
  try simp only [Act.put, List.setIfInBounds_toArray, List.set_cons_zero, List.set_cons_succ]
  refine rg_take (v := ?_) 2 rfl (by kernel_rfl) (by kernel_rfl) (by kernel_rfl) (fun _ _ _ h => h) (by rfl) ?_ ?_; rotate_left
  · (intro x hx; go_simp; first | done | with_reducible rfl | (rw [if_pos (by omega)]; try with_reducible rfl))
  try simp only [Act.put, List.setIfInBounds_toArray, List.set_cons_zero, List.set_cons_succ]
  refine rg_take (v := ?_) 4 rfl (by kernel_rfl) (by kernel_rfl) (by kernel_rfl) (fun _ _ _ h => h) (by rfl) ?_ ?_; rotate_left
  · (intro x hx; go_simp; first | done | with_reducible rfl | (rw [if_pos (by omega)]; try with_reducible rfl))
  try simp only [Act.put, List.setIfInBounds_toArray, List.set_cons_zero, List.set_cons_succ]
  refine rg_take (v := ?_) 5 rfl (by kernel_rfl) (by kernel_rfl) (by kernel_rfl) (fun _ _ _ h => h) (by rfl) ?_ ?_; rotate_left
  · (intro x hx; go_simp; first | done | with_reducible rfl | (rw [if_pos (by omega)]; try with_reducible rfl))
  try simp only [Act.put, List.setIfInBounds_toArray, List.set_cons_zero, List.set_cons_succ]
  refine rg_step 3 rfl (by kernel_rfl) (by rfl) (fun K hK => ?_)
  go_simp
  refine (w16_post _ A2 n2 c2 _ k ho2.bs.drew (by simp [Mac6.bytes])).mono ?_
  rintro e w3 ⟨A3, n3, c3, rfl, ho3, hb3⟩
  have C3 := Ext.cells (M := fun k => w.heap.size < k) ((hb3.block w.heap.size (by simp; omega)).trans HB.out) (by omega)
  clear C2
  refine hK.out _ _ (Ext.below_all _ hb3) ?_
  clear hK K; try simp only [Act.put, List.setIfInBounds_toArray, List.set_cons_zero, List.set_cons_succ]
  refine rg_step 6 rfl (by kernel_rfl) (by rfl) (fun K hK => ?_)
  refine wp_app8 _ _ 0 0 rfl _ _ n3 c3 _ rfl ho3 w.heap.size A n c l rfl (hl2.drew.below (hb3.mono (by simp; omega))) (by simp [Mac6.bytes, b16]; omega) hb3.size ?_
  intro A4 n4 c4 w4 ho4 hb4 hg4
  refine hK.out _ _ (Ext.of_below _ hb4 fun k hk _ => by simp at hk; omega) ?_
  clear hK K; try simp only [Act.put, List.setIfInBounds_toArray, List.set_cons_zero, List.set_cons_succ]
  refine rg_take (v := ?_) 7 rfl (by kernel_rfl) (by kernel_rfl) (by kernel_rfl) (fun _ _ _ h => h) (by rfl) ?_ ?_; rotate_left
  · (intro x hx; go_simp; first | done | with_reducible rfl | (rw [if_pos (by omega)]; try with_reducible rfl))
  try simp only [Act.put, List.setIfInBounds_toArray, List.set_cons_zero, List.set_cons_succ]
  refine rg_take (v := ?_) 8 rfl (by kernel_rfl) (by kernel_rfl) (by kernel_rfl) (fun _ _ _ h => h) (by rfl) ?_ ?_; rotate_left
  · (intro x hx; go_simp; first | done | with_reducible rfl | (rw [if_pos (by omega)]; try with_reducible rfl))
  try simp only [Act.put, List.setIfInBounds_toArray, List.set_cons_zero, List.set_cons_succ]
  refine rg_done (by kernel_rfl) ?_
  go_wp2_with fail
  go_ret2
  refine ⟨A4, n4, c4, rfl, ho4.lower (by simp; omega), ?_⟩
  exact (q2.drew.trans (hb3.mono (by simp; omega))).trans (hb4.mono (by simp; omega))
end Go.Proofs.Ytjmeehmbccilkaa
