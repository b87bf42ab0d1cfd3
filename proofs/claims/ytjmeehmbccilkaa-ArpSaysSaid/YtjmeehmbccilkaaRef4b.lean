/-
  Contract of the reference's GetFrame.
-/
import Derived.Test.YtjmeehmbccilkaaRef4a
namespace Go.Proofs.Ytjmeehmbccilkaa
open Go.RowKit

theorem beN_two (l : List UInt8) (k : Nat) (x y : UInt8) (hx : l[k]? = some x) (hy : l[k + 1]? = some y) : (beN ((l.drop k).take 2) : Int) = (x.toNat : Int) * 256 + y.toNat := by
  have hk : k + 1 < l.length := (List.getElem?_eq_some_iff.1 hy).1
  have e : (l.drop k).take 2 = [x, y] := by
    rw [List.drop_eq_getElem_cons (show k < l.length by omega), List.drop_eq_getElem_cons hk]
    rw [List.getElem?_eq_getElem (by omega)] at hx hy
    injection hx with hx
    injection hy with hy
    simp [hx, hy]
  rw [e]
  simp [beN]

set_option maxRecDepth 100000 in
set_option maxHeartbeats 1000000 in
theorem rget_long (w : World) (A : Option Addr) (n c : Nat) (l : List UInt8) (h : BS w w.heap.size A n c l) (hn : 1514 < n) (hmx : n ≤ 9223372036854775807) :
    Calls Try.prog 17 #[.slice A n c] w (FrPost w (getFr l)) := by
  have e1 : getFr l = (Fr.zero, 2) := by rw [getFr, if_pos (by have := h.1; omega)]
  rw [e1]
  clear e1 h
  go_enter Try.func17, Try.ntmps17
  go_wp2_with fail
  refine bodyPost_ret (v := .tuple #[frV zero6 zero6 0 none 0 0, .int .i64 2]) (by simp [results, Try.results17, go_sem, zero6]) rfl ?_
  exact ⟨none, 0, 0, rfl, OB.nil_ _ _, by go_grown⟩

set_option maxRecDepth 100000 in
set_option maxHeartbeats 1000000 in
theorem rget_short (w : World) (A : Option Addr) (n c : Nat) (l : List UInt8) (h : BS w w.heap.size A n c l) (hn : n < 14) :
    Calls Try.prog 17 #[.slice A n c] w (FrPost w (getFr l)) := by
  have e1 : getFr l = (Fr.zero, 3) := by rw [getFr, if_neg (by have := h.1; omega), if_pos (by have := h.1; omega)]
  rw [e1]
  clear e1 h
  go_enter Try.func17, Try.ntmps17
  go_wp2_with fail
  refine bodyPost_ret (v := .tuple #[frV zero6 zero6 0 none 0 0, .int .i64 3]) (by simp [results, Try.results17, go_sem, zero6]) rfl ?_
  exact ⟨none, 0, 0, rfl, OB.nil_ _ _, by go_grown⟩

theorem macOf_take (l : List UInt8) : macOf (l.take 6) = macOf l := by
  match l with
  | [] => rfl
  | [a] => rfl
  | [a, b] => rfl
  | [a, b, c] => rfl
  | [a, b, c, d] => rfl
  | [a, b, c, d, e] => rfl
  | a :: b :: c :: d :: e :: f :: r => simp [macOf]

set_option maxRecDepth 100000 in
set_option maxHeartbeats 1000000 in
theorem rget_ok (w : World) (A : Option Addr) (n c : Nat) (l : List UInt8) (h : BS w w.heap.size A n c l) (hn : 14 ≤ n) (hn2 : n ≤ 1514) :
    Calls Try.prog 17 #[.slice A n c] w (FrPost w (getFr l)) := by
  have hl := h.1
  have hnc := h.2.1
  obtain ⟨x, hx⟩ : ∃ x, l[12]? = some x := ⟨_, List.getElem?_eq_getElem (by omega)⟩
  obtain ⟨y, hy⟩ : ∃ y, l[13]? = some y := ⟨_, List.getElem?_eq_getElem (by omega)⟩
  have e1 : getFr l = (⟨macOf l, macOf (l.drop 6), (x.toNat : Int) * 256 + y.toNat, l.drop 14⟩, 0) := by
    rw [getFr, if_neg (by omega), if_neg (by omega), macOf_take, macOf_take, beN_two l 12 x y hx hy]
  obtain ⟨m1, hm1⟩ : ∃ m, macOf l = m := ⟨_, rfl⟩
  obtain ⟨m2, hm2⟩ : ∃ m, macOf (l.drop 6) = m := ⟨_, rfl⟩
  rw [e1, hm1, hm2]
  have HM1 := Lib.hid hm1
  have HM2 := Lib.hid hm2
  clear hm1 hm2
  have h6 := h.drop (k := 6) (by omega)
  have h14 := h.drop (k := 14) (by omega)
  obtain ⟨A6, hA6⟩ : ∃ Ak, (if c = 6 then A else Option.map (fun x => x.add 6) A) = Ak := ⟨_, rfl⟩
  obtain ⟨A14, hA14⟩ : ∃ Ak, (if c = 14 then A else Option.map (fun x => x.add 14) A) = Ak := ⟨_, rfl⟩
  rw [hA6] at h6
  have hA6' : (if c = 6 then A else Option.map (fun x => ({ block := x.block, off := x.off + 6 } : Addr)) A) = A6 := hA6
  have hA14' : (if c = 14 then A else Option.map (fun x => ({ block := x.block, off := x.off + 14 } : Addr)) A) = A14 := hA14
  rw [hA14] at h14
  have hll : l.length ≤ 1514 := by omega
  have HX := Lib.hid hx
  have HY := Lib.hid hy
  clear e1 hl hx hy
  go_enter Try.func17, Try.ntmps17
  go_wp2_with fail
  refine rg_begin (fun k => w.heap.size ≤ k) (by kernel_rfl) ?_
  have b0 : Below w.heap.size w (w.alloc (.cells #[.int .u8 0, .int .u8 0, .int .u8 0, .int .u8 0, .int .u8 0, .int .u8 0, .int .u8 0, .int .u8 0, .int .u8 0, .int .u8 0, .int .u8 0, .int .u8 0, .int .i64 0, .slice none 0 0] 35)).drew := ((Below.refl _ w).alloc (Nat.le_refl _) _).drew
  refine rg_take (v := ?_) 0 rfl (by kernel_rfl) (by kernel_rfl) (by kernel_rfl) (fun _ _ _ h => h) (by rfl) ?_ ?_; rotate_left
  · (intro x hx; go_simp; first | done | with_reducible rfl | (rw [if_pos (by omega)]; try with_reducible rfl))
  try simp only [Act.put, List.setIfInBounds_toArray, List.set_cons_zero, List.set_cons_succ]
  refine rg_take (v := ?_) 2 rfl (by kernel_rfl) (by kernel_rfl) (by kernel_rfl) (fun _ _ _ h => h) (by rfl) ?_ ?_; rotate_left
  · (intro x hx; go_simp; first | done | with_reducible rfl | (rw [if_pos (by omega)]; try with_reducible rfl))
  try simp only [Act.put, List.setIfInBounds_toArray, List.set_cons_zero, List.set_cons_succ]
  refine rg_take (v := ?_) 3 rfl (by kernel_rfl) (by kernel_rfl) (by kernel_rfl) (fun _ _ _ h => h) (by rfl) ?_ ?_; rotate_left
  · (intro x hx; go_simp; first | done | with_reducible rfl | (rw [if_pos (by omega)]; try with_reducible rfl))
  try simp only [Act.put, List.setIfInBounds_toArray, List.set_cons_zero, List.set_cons_succ]
  refine rg_take (v := ?_) 5 rfl (by kernel_rfl) (by kernel_rfl) (by kernel_rfl) (fun _ _ _ h => h) (by rfl) ?_ ?_; rotate_left
  · (intro x hx; go_simp; first | done | with_reducible rfl | (rw [if_pos (by omega)]; try with_reducible rfl))
  try simp only [Act.put, List.setIfInBounds_toArray, List.set_cons_zero, List.set_cons_succ]
  refine rg_take (v := ?_) 7 rfl (by kernel_rfl) (by kernel_rfl) (by kernel_rfl) (fun _ _ _ h => h) (by rfl) ?_ ?_; rotate_left
  · (intro x hx; go_simp; first | done | with_reducible rfl | (rw [if_pos (by omega)]; try with_reducible rfl))
  try simp only [Act.put, List.setIfInBounds_toArray, List.set_cons_zero, List.set_cons_succ]
  refine rg_take (v := ?_) 8 rfl (by kernel_rfl) (by kernel_rfl) (by kernel_rfl) (fun _ _ _ h => h) (by rfl) ?_ ?_; rotate_left
  · (intro x hx; go_simp; first | done | with_reducible rfl | (rw [if_pos (by omega)]; try with_reducible rfl))
  try simp only [Act.put, List.setIfInBounds_toArray, List.set_cons_zero, List.set_cons_succ]
  refine rg_step 1 rfl (by kernel_rfl) (by rfl) (fun K hK => ?_)
  go_simp
  refine (rfmac_any _ A n c l ((h.below b0).more (by simp)) (by omega) (by omega)).mono ?_
  rintro e w1 ⟨rfl, hb1⟩
  rw [HM1.out]
  have b1 := b0.trans (hb1.mono (by simp))
  refine hK.out _ _ (Ext.below_all _ hb1) ?_
  clear hK K; try simp only [Act.put, List.setIfInBounds_toArray, List.set_cons_zero, List.set_cons_succ]
  refine rg_step 4 rfl (by kernel_rfl) (by rfl) (fun K hK => ?_)
  go_simp
  refine (rfmac_any _ A6 (n - 6) (c - 6) (l.drop 6) ((h6.below b1).more b1.size) (by omega) (by omega)).mono ?_
  rintro e w2 ⟨rfl, hb2⟩
  rw [HM2.out]
  have b2 := b1.trans (hb2.mono b1.size)
  refine hK.out _ _ (Ext.below_all _ hb2) ?_
  clear hK K; try simp only [Act.put, List.setIfInBounds_toArray, List.set_cons_zero, List.set_cons_succ]
  refine rg_step 6 rfl (by kernel_rfl) (by rfl) (fun K hK => ?_)
  go_simp
  refine (at16_any _ A n c l 12 x y ((h.below b2).more b2.size) (by omega) (by omega) (by omega) HX.out HY.out).mono ?_
  rintro e w3 ⟨rfl, hb3⟩
  have b3 := b2.trans (hb3.mono b2.size)
  refine hK.out _ _ (Ext.below_all _ hb3) ?_
  clear hK K; try simp only [Act.put, List.setIfInBounds_toArray, List.set_cons_zero, List.set_cons_succ]
  refine rg_step 9 rfl (by kernel_rfl) (by rfl) (fun K hK => ?_)
  go_simp
  refine (rfcopied_any _ A14 (n - 14) (c - 14) (l.drop 14) ((h14.below b3).more b3.size) (by rw [List.length_drop]; omega)).mono ?_
  rintro e w4 ⟨A4, n4, c4, rfl, ho4, hb4⟩
  have b4 := b3.trans (hb4.mono b3.size)
  have z1 := hb1.size
  have z2 := hb2.size
  have z3 := hb3.size
  simp at z1
  have hres := (hb4.block w.heap.size (by omega)).trans ((hb3.block w.heap.size (by omega)).trans ((hb2.block w.heap.size (by omega)).trans ((hb1.block w.heap.size (by simp)).trans (heap_alloc_at rfl))))
  obtain ⟨k4, f4⟩ := cells_of hres
  refine hK.out _ _ (Ext.below_all _ hb4) ?_
  clear hK K; try simp only [Act.put, List.setIfInBounds_toArray, List.set_cons_zero, List.set_cons_succ]
  refine rg_take (v := ?_) 10 rfl (by kernel_rfl) (by kernel_rfl) (by kernel_rfl) (fun _ _ _ h => h) (by rfl) ?_ ?_; rotate_left
  · (intro x hx; go_simp; first | done | with_reducible rfl | (rw [if_pos (by omega)]; try with_reducible rfl))
  try simp only [Act.put, List.setIfInBounds_toArray, List.set_cons_zero, List.set_cons_succ]
  refine rg_step 11 rfl (by kernel_rfl) (by rfl) (fun K hK => ?_)
  go_simp
  refine hK.out _ _ ?_ ?_
  · repeat (refine Ext.set ?_ (.inr (Nat.le_refl w.heap.size)) _)
    exact Ext.refl _ _
  clear hK K; try simp only [Act.put, List.setIfInBounds_toArray, List.set_cons_zero, List.set_cons_succ]
  refine rg_take (v := ?_) 12 rfl (by kernel_rfl) (by kernel_rfl) (by kernel_rfl) (fun _ _ _ h => h) (by rfl) ?_ ?_; rotate_left
  · (intro x hx; go_simp; first | done | with_reducible rfl | (rw [if_pos (by omega)]; try with_reducible rfl))
  try simp only [Act.put, List.setIfInBounds_toArray, List.set_cons_zero, List.set_cons_succ]
  refine rg_done (by kernel_rfl) ?_
  go_wp2_with fail
  refine bodyPost_ret (v := .tuple #[frV m1 m2 ((x.toNat : Int) * 256 + y.toNat) A4 n4 c4, .int .i64 0]) (by simp [results, Try.results17, go_sem, k4]) rfl ?_
  refine ⟨A4, n4, c4, rfl, ?_, ?_⟩
  · refine OB.lower (H := w.heap.size + 1) ?_ (by omega)
    repeat (refine OB.setLow ?_ (by simp) _)
    exact ho4.lower (by omega)
  · refine b4.trans ?_
    go_grown
end Go.Proofs.Ytjmeehmbccilkaa
