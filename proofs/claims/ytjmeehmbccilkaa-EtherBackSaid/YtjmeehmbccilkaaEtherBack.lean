/-
  The walk of the statement EtherBack.
-/
import Derived.Test.YtjmeehmbccilkaaEtherA
namespace Go.Proofs.Ytjmeehmbccilkaa
open Go.RowKit

set_option maxRecDepth 100000 in
set_option maxHeartbeats 1000000 in
theorem back_out (w : World) (t f : Mac6) (k : Int) (A : Option Addr) (n c : Nat) (hmx : n ≤ 9223372036854775807) (h : 1500 < n ∨ k < 0 ∨ 65535 < k) :
    Calls Try.prog 5 #[frV t f k A n c] w (TruePost w) := by
  have key : ∀ w1, Below (w.heap.size + 1) (w.alloc (.cells (frC t f k A n c) 27)) w1 → w1.heap[w.heap.size]? = some (.cells (frC t f k A n c) 27 (0, 0)) ∧ Below w.heap.size w w1 := fun w1 hb =>
    ⟨(hb.block w.heap.size (by omega)).trans (heap_alloc_at rfl), ((Below.refl _ w).alloc (Nat.le_refl _) _).trans (hb.mono (by omega))⟩
  by_cases h1 : 1500 < n
  · clear h
    go_enter Try.func5, Try.ntmps5
    go_wp2_with fail
    refine (awake4_any _).mono ?_
    rintro e w1 ⟨rfl, hb1⟩
    obtain ⟨hx, q1⟩ := key w1 (hb1.mono (by simp))
    obtain ⟨k1, f1⟩ := cells_of hx
    clear hx key
    go_wp2_with fail
    go_ret
    exact ⟨rfl, q1⟩
  · by_cases h2 : k < 0
    · clear h
      go_enter Try.func5, Try.ntmps5
      go_wp2_with fail
      refine (awake4_any _).mono ?_
      rintro e w1 ⟨rfl, hb1⟩
      obtain ⟨hx, q1⟩ := key w1 (hb1.mono (by simp))
      obtain ⟨k1, f1⟩ := cells_of hx
      clear hx key
      go_wp2_with fail
      go_ret
      exact ⟨rfl, q1⟩
    · have h3 : 65535 < k := by omega
      clear h
      go_enter Try.func5, Try.ntmps5
      go_wp2_with fail
      refine (awake4_any _).mono ?_
      rintro e w1 ⟨rfl, hb1⟩
      obtain ⟨hx, q1⟩ := key w1 (hb1.mono (by simp))
      obtain ⟨k1, f1⟩ := cells_of hx
      clear hx key
      go_wp2_with fail
      go_ret
      exact ⟨rfl, q1⟩

set_option maxRecDepth 100000 in
set_option maxHeartbeats 2000000 in
theorem back_in (w : World) (t f : Mac6) (k : Int) (A : Option Addr) (n c : Nat) (l : List UInt8) (h : BS w w.heap.size A n c l) (hn : n ≤ 1500) (h0 : 0 ≤ k) (h1 : k ≤ 65535) :
    Calls Try.prog 5 #[frV t f k A n c] w (TruePost w) := by
  have hll : l.length ≤ 1500 := by have := h.1; omega
  have hp : putFr ⟨t, f, k, l⟩ = (t.bytes ++ f.bytes ++ b16 k ++ l, 0) := by rw [putFr, if_neg (by simp only; omega), if_neg (by simp only; omega)]
  have hlen : (t.bytes ++ f.bytes ++ b16 k ++ l).length = 14 + n := by have := h.1; simp [Mac6.bytes, b16]; omega
  have hgp := get_put t f k l hll h0 h1
  have HP := Lib.hid hp
  have HL := Lib.hid hlen
  have HG := Lib.hid hgp
  clear hp hlen hgp
  have e1 : IntKind.i64.wrap (14 + (n : Int)) = 14 + (n : Int) := IntWalk.i64_in _ (by omega)
  go_enter Try.func5, Try.ntmps5
  go_wp2_with fail
  refine (awake4_any _).mono ?_
  rintro e w1 ⟨rfl, hb1⟩
  have hx1 := (hb1.block w.heap.size (by simp)).trans (heap_alloc_at rfl)
  have q1 : Below w.heap.size w w1 := ((Below.refl _ w).alloc (Nat.le_refl _) _).trans (hb1.mono (by simp))
  have z1 := hb1.size
  simp at z1
  obtain ⟨k1, f1⟩ := cells_of hx1
  have H1 := Lib.hid hx1
  clear hx1
  go_wp2_with fail
  refine (put_any _ t f k A n c l ((h.below q1).more q1.size)).mono ?_
  rw [HP.out]
  rintro e w2 ⟨A2, n2, c2, rfl, ho2, hb2⟩
  have hn2 : ((n2 : Int) == 14 + (n : Int)) = true := by
    have h1 := ho2.1
    have h2 := HL.out
    simp only at h1
    rw [beq_iff_eq]
    omega
  have HX2 := Lib.hid ((hb2.block w.heap.size (by omega)).trans H1.out)
  clear k1 f1
  go_wp2_with fail
  refine (get_any w2 A2 n2 c2 _ ho2.bs).mono ?_
  rw [HG.out]
  rintro e w3 ⟨A3, n3, c3, rfl, ho3, hb3⟩
  have z2 := hb2.size
  have z3 := hb3.size
  have HX3 := Lib.hid ((hb3.block w.heap.size (by omega)).trans HX2.out)
  have q3 : Below w.heap.size w w3 := (q1.trans (hb2.mono (by omega))).trans (hb3.mono (by omega))
  go_upto_region 7 with fail
  refine rg_begin_with (fun _ => False) (fun W => (∀ x, Ext (fun _ => False) W x → ∀ j, x.cell? ⟨w3.heap.size, j, none⟩ = (frC t f k A3 n3 c3)[j]?) ∧
    (∀ x, Ext (fun _ => False) W x → ∀ j, x.cell? ⟨w.heap.size, j, none⟩ = (frC t f k A n c)[j]?) ∧ (w3.alloc (.cells (frC t f k A3 n3 c3) 27)).drew = W)
    (by kernel_rfl) ⟨Ext.cells (heap_alloc_at rfl) (fun h => h), Ext.cells (heap_alloc_of HX3.out) (fun h => h), rfl⟩ ?_
  rintro ⟨C1, C2, _⟩
  have HX4 := Lib.hid (heap_alloc_of (o := .cells (frC t f k A3 n3 c3) 27) HX3.out)
  refine rg_take (v := ?_) 0 rfl (by kernel_rfl) (by kernel_rfl) (by kernel_rfl) (fun _ _ _ h => h) (by rfl) ?_ ?_; rotate_left
  · (intro x hx; go_simp; first | done | with_reducible rfl | (rw [if_pos (by omega)]; try with_reducible rfl))
  try simp only [Act.put, List.setIfInBounds_toArray, List.set_cons_zero, List.set_cons_succ]
  refine rg_take (v := ?_) 1 rfl (by kernel_rfl) (by kernel_rfl) (by kernel_rfl) (fun _ _ _ h => h) (by rfl) ?_ ?_; rotate_left
  · (intro x hx; go_simp; first | done | with_reducible rfl | (rw [if_pos (by omega)]; try with_reducible rfl))
  try simp only [Act.put, List.setIfInBounds_toArray, List.set_cons_zero, List.set_cons_succ]
  refine rg_take (v := ?_) 2 rfl (by kernel_rfl) (by kernel_rfl) (by kernel_rfl) (fun _ _ _ h => h) (by rfl) ?_ ?_; rotate_left
  · (intro x hx; go_simp; first | done | with_reducible rfl | (rw [if_pos (by omega)]; try with_reducible rfl))
  try simp only [Act.put, List.setIfInBounds_toArray, List.set_cons_zero, List.set_cons_succ]
  refine rg_take (v := ?_) 3 rfl (by kernel_rfl) (by kernel_rfl) (by kernel_rfl) (fun _ _ _ h => h) (by rfl) ?_ ?_; rotate_left
  · (intro x hx; go_simp; first | done | with_reducible rfl | (rw [if_pos (by omega)]; try with_reducible rfl))
  try simp only [Act.put, List.setIfInBounds_toArray, List.set_cons_zero, List.set_cons_succ]
  refine rg_take (v := ?_) 4 rfl (by kernel_rfl) (by kernel_rfl) (by kernel_rfl) (fun _ _ _ h => h) (by rfl) ?_ ?_; rotate_left
  · (intro x hx; go_simp; first | done | with_reducible rfl | (rw [if_pos (by omega)]; try with_reducible rfl))
  try simp only [Act.put, List.setIfInBounds_toArray, List.set_cons_zero, List.set_cons_succ]
  refine rg_take (v := ?_) 5 rfl (by kernel_rfl) (by kernel_rfl) (by kernel_rfl) (fun _ _ _ h => h) (by rfl) ?_ ?_; rotate_left
  · (intro x hx; go_simp; first | done | with_reducible rfl | (rw [if_pos (by omega)]; try with_reducible rfl))
  try simp only [Act.put, List.setIfInBounds_toArray, List.set_cons_zero, List.set_cons_succ]
  refine rg_take (v := ?_) 6 rfl (by kernel_rfl) (by kernel_rfl) (by kernel_rfl) (fun _ _ _ h => h) (by rfl) ?_ ?_; rotate_left
  · (intro x hx; go_simp; first | done | with_reducible rfl | (rw [if_pos (by omega)]; try with_reducible rfl))
  try simp only [Act.put, List.setIfInBounds_toArray, List.set_cons_zero, List.set_cons_succ]
  refine rg_take (v := ?_) 7 rfl (by kernel_rfl) (by kernel_rfl) (by kernel_rfl) (fun _ _ _ h => h) (by rfl) ?_ ?_; rotate_left
  · (intro x hx; go_simp; first | done | with_reducible rfl | (rw [if_pos (by omega)]; try with_reducible rfl))
  try simp only [Act.put, List.setIfInBounds_toArray, List.set_cons_zero, List.set_cons_succ]
  refine rg_take (v := ?_) 8 rfl (by kernel_rfl) (by kernel_rfl) (by kernel_rfl) (fun _ _ _ h => h) (by rfl) ?_ ?_; rotate_left
  · (intro x hx; go_simp; first | done | with_reducible rfl | (rw [if_pos (by omega)]; try with_reducible rfl))
  try simp only [Act.put, List.setIfInBounds_toArray, List.set_cons_zero, List.set_cons_succ]
  refine rg_step 9 rfl (by kernel_rfl) (by rfl) (fun K hK => ?_)
  go_simp
  refine (own4_any _ t f k _ n c).mono ?_
  rintro e w4 ⟨rfl, hb4⟩
  have z4 := hb4.size
  simp at z4
  have D2 := Ext.cells (M := fun _ => False) ((hb4.block w.heap.size (by simp; omega)).trans HX4.out) (fun h => h)
  clear C1 C2
  refine hK.out _ _ (Ext.below_all _ hb4) ?_
  clear hK K; try simp only [Act.put, List.setIfInBounds_toArray, List.set_cons_zero, List.set_cons_succ]
  refine rg_step 10 rfl (by kernel_rfl) (by rfl) (fun K hK => ?_)
  go_simp
  refine (same4_eq w4 t f k _ _ _ _ _ _ l ((((ho3.bs.alloc (Nat.le_refl _) _).drew).below (hb4.mono (by simp))).more (by omega)) ((((((h.below q3).more q3.size).alloc (Nat.le_refl _) _).drew).below (hb4.mono (by simp))).more (by omega))).mono ?_
  rintro e w5 ⟨rfl, hb5⟩
  have E2 := Ext.cells (M := fun _ => False) ((hb5.block w.heap.size (by omega)).trans ((hb4.block w.heap.size (by simp; omega)).trans HX4.out)) (fun h => h)
  clear D2
  refine hK.out _ _ (Ext.below_all _ hb5) ?_
  clear hK K; try simp only [Act.put, List.setIfInBounds_toArray, List.set_cons_zero, List.set_cons_succ]
  refine rg_take (v := ?_) 11 rfl (by kernel_rfl) (by kernel_rfl) (by kernel_rfl) (fun _ _ _ h => h) (by rfl) ?_ ?_; rotate_left
  · (intro x hx; go_simp; first | done | with_reducible rfl | (rw [if_pos (by omega)]; try with_reducible rfl))
  try simp only [Act.put, List.setIfInBounds_toArray, List.set_cons_zero, List.set_cons_succ]
  refine rg_take (v := ?_) 12 rfl (by kernel_rfl) (by kernel_rfl) (by kernel_rfl) (fun _ _ _ h => h) (by rfl) ?_ ?_; rotate_left
  · (intro x hx; go_simp; first | done | with_reducible rfl | (rw [if_pos (by omega)]; try with_reducible rfl))
  try simp only [Act.put, List.setIfInBounds_toArray, List.set_cons_zero, List.set_cons_succ]
  refine rg_take (v := ?_) 13 rfl (by kernel_rfl) (by kernel_rfl) (by kernel_rfl) (fun _ _ _ h => h) (by rfl) ?_ ?_; rotate_left
  · (intro x hx; go_simp; first | done | with_reducible rfl | (rw [if_pos (by omega)]; try with_reducible rfl))
  try simp only [Act.put, List.setIfInBounds_toArray, List.set_cons_zero, List.set_cons_succ]
  refine rg_take (v := ?_) 14 rfl (by kernel_rfl) (by kernel_rfl) (by kernel_rfl) (fun _ _ _ h => h) (by rfl) ?_ ?_; rotate_left
  · (intro x hx; go_simp; first | done | with_reducible rfl | (rw [if_pos (by omega)]; try with_reducible rfl))
  try simp only [Act.put, List.setIfInBounds_toArray, List.set_cons_zero, List.set_cons_succ]
  refine rg_take (v := ?_) 15 rfl (by kernel_rfl) (by kernel_rfl) (by kernel_rfl) (fun _ _ _ h => h) (by rfl) ?_ ?_; rotate_left
  · (intro x hx; go_simp; first | done | with_reducible rfl | (rw [if_pos (by omega)]; try with_reducible rfl))
  try simp only [Act.put, List.setIfInBounds_toArray, List.set_cons_zero, List.set_cons_succ]
  refine rg_take (v := ?_) 16 rfl (by kernel_rfl) (by kernel_rfl) (by kernel_rfl) (fun _ _ _ h => h) (by rfl) ?_ ?_; rotate_left
  · (intro x hx; go_simp; first | done | with_reducible rfl | (rw [if_pos (by omega)]; try with_reducible rfl))
  try simp only [Act.put, List.setIfInBounds_toArray, List.set_cons_zero, List.set_cons_succ]
  refine rg_take (v := ?_) 17 rfl (by kernel_rfl) (by kernel_rfl) (by kernel_rfl) (fun _ _ _ h => h) (by rfl) ?_ ?_; rotate_left
  · (intro x hx; go_simp; first | done | with_reducible rfl | (rw [if_pos (by omega)]; try with_reducible rfl))
  try simp only [Act.put, List.setIfInBounds_toArray, List.set_cons_zero, List.set_cons_succ]
  refine rg_take (v := ?_) 18 rfl (by kernel_rfl) (by kernel_rfl) (by kernel_rfl) (fun _ _ _ h => h) (by rfl) ?_ ?_; rotate_left
  · (intro x hx; go_simp; first | done | with_reducible rfl | (rw [if_pos (by omega)]; try with_reducible rfl))
  try simp only [Act.put, List.setIfInBounds_toArray, List.set_cons_zero, List.set_cons_succ]
  refine rg_take (v := ?_) 19 rfl (by kernel_rfl) (by kernel_rfl) (by kernel_rfl) (fun _ _ _ h => h) (by rfl) ?_ ?_; rotate_left
  · (intro x hx; go_simp; first | done | with_reducible rfl | (rw [if_pos (by omega)]; try with_reducible rfl))
  try simp only [Act.put, List.setIfInBounds_toArray, List.set_cons_zero, List.set_cons_succ]
  refine rg_take (v := ?_) 20 rfl (by kernel_rfl) (by kernel_rfl) (by kernel_rfl) (fun _ _ _ h => h) (by rfl) ?_ ?_; rotate_left
  · (intro x hx; go_simp; first | done | with_reducible rfl | (rw [if_pos (by omega)]; try with_reducible rfl))
  try simp only [Act.put, List.setIfInBounds_toArray, List.set_cons_zero, List.set_cons_succ]
  refine rg_take (v := ?_) 21 rfl (by kernel_rfl) (by kernel_rfl) (by kernel_rfl) (fun _ _ _ h => h) (by rfl) ?_ ?_; rotate_left
  · (intro x hx; go_simp; first | done | with_reducible rfl | (rw [if_pos (by omega)]; try with_reducible rfl))
  try simp only [Act.put, List.setIfInBounds_toArray, List.set_cons_zero, List.set_cons_succ]
  refine rg_done (by kernel_rfl) ?_
  go_wp2_with fail
  go_ret
  exact ⟨rfl, (((q3.alloc (by omega) _).drew).trans (hb4.mono (by simp; omega))).trans (hb5.mono (by omega))⟩

theorem back_walk (w : World) (t f : Mac6) (k : Int) (A : Option Addr) (n c : Nat) (l : List UInt8) (h : BS w w.heap.size A n c l) :
    Calls Try.prog 5 #[frV t f k A n c] w (TruePost w) := by
  have hmx : n ≤ 9223372036854775807 := by have h1 := h.2.1; have h2 := h.2.2.1; unfold maxLen at h2; omega
  by_cases hc : n ≤ 1500 ∧ 0 ≤ k ∧ k ≤ 65535
  · exact back_in w t f k A n c l h hc.1 hc.2.1 hc.2.2
  · exact back_out w t f k A n c hmx (by omega)
end Go.Proofs.Ytjmeehmbccilkaa
