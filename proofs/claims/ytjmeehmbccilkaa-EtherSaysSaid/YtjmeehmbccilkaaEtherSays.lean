/-
  The walk of the statement EtherSays.
-/
import Derived.Test.YtjmeehmbccilkaaEtherA
namespace Go.Proofs.Ytjmeehmbccilkaa
open Go.RowKit

set_option maxRecDepth 100000 in
set_option maxHeartbeats 1000000 in
theorem says_out (w : World) (B : Option Addr) (nb cb : Nat) (t f : Mac6) (k : Int) (A : Option Addr) (n c : Nat) (m : Mac6) (hmb : nb ≤ 9223372036854775807) (hmx : n ≤ 9223372036854775807) (h : 1600 < nb ∨ 1600 < n) :
    Calls Try.prog 4 #[.slice B nb cb, frV t f k A n c, macV m] w (TruePost w) := by
  by_cases h1 : 1600 < nb
  all_goals
    try (have h2 : 1600 < n := by omega)
    clear h
    go_enter Try.func4, Try.ntmps4
    go_wp2_with fail
    refine (awake4_any _).mono ?_
    rintro e w1 ⟨rfl, hb1⟩
    have hx1 := (hb1.block w.heap.size (by simp; omega)).trans (heap_alloc_of (heap_alloc_at rfl))
    have q1 : Below w.heap.size w w1 := (((Below.refl _ w).alloc (Nat.le_refl _) _).alloc (by simp) _).trans (hb1.mono (by simp; omega))
    obtain ⟨k1, f1⟩ := cells_of hx1
    clear hx1
    go_wp2_with fail
    go_ret
    exact ⟨rfl, q1⟩

set_option maxRecDepth 100000 in
set_option maxHeartbeats 4000000 in
theorem says_in (w : World) (B : Option Addr) (nb cb : Nat) (lb : List UInt8) (t f : Mac6) (k : Int) (A : Option Addr) (n c : Nat) (l : List UInt8) (m : Mac6) (h : BS w w.heap.size B nb cb lb) (h' : BS w w.heap.size A n c l) (hn : nb ≤ 1600) (hn' : n ≤ 1600) :
    Calls Try.prog 4 #[.slice B nb cb, frV t f k A n c, macV m] w (TruePost w) := by
  have hll : lb.length ≤ 1600 := by have := h.1; omega
  obtain ⟨⟨g, x⟩, hg⟩ : ∃ r, getFr lb = r := ⟨_, rfl⟩
  obtain ⟨⟨pb, y⟩, hp⟩ : ∃ r, putFr ⟨t, f, k, l⟩ = r := ⟨_, rfl⟩
  obtain ⟨gd, gf, gt, gb⟩ := g
  have HG := Lib.hid hg
  have HP := Lib.hid hp
  clear hg hp
  go_enter Try.func4, Try.ntmps4
  go_wp2_with fail
  refine (awake4_any _).mono ?_
  rintro e w1 ⟨rfl, hb1⟩
  have hx1 := (hb1.block w.heap.size (by simp; omega)).trans (heap_alloc_of (heap_alloc_at rfl))
  have hm1 := (hb1.block (w.heap.size + 1) (by simp)).trans (heap_alloc_at (by simp))
  have q1 : Below w.heap.size w w1 := (((Below.refl _ w).alloc (Nat.le_refl _) _).alloc (by simp) _).trans (hb1.mono (by simp; omega))
  have z1 := hb1.size
  simp at z1
  obtain ⟨k1, f1⟩ := cells_of hx1
  have X1 := Lib.hid hx1
  have M1 := Lib.hid hm1
  clear hx1 hm1
  have b1 : BS w1 w1.heap.size B nb cb lb := (h.below q1).more q1.size
  go_wp2_with (at_builtin; go_must (refine app8 rfl _ _ rfl w1.heap.size _ 0 0 [] rfl (OB.empty w1 _ _ _ rfl (Nat.le_refl _) rfl) w1.heap.size B nb cb lb rfl (b1.alloc (Nat.le_refl _) _) (by simp only [List.length_nil]; omega) (by simp) ?_))
  intro A2 n2 c2 w2 ho2 hb2 _
  have z2 := hb2.size
  simp at z2
  have q2 : Below w.heap.size w w2 := (q1.alloc q1.size _).trans (hb2.mono q1.size)
  have X2 := Lib.hid ((hb2.block w.heap.size (by omega)).trans (heap_alloc_of X1.out))
  have M2 := Lib.hid ((hb2.block (w.heap.size + 1) (by omega)).trans (heap_alloc_of M1.out))
  clear k1 f1
  go_wp2_with fail
  refine (get_any w2 A2 n2 c2 lb ho2.bs).mono ?_
  rw [HG.out]
  rintro e w3 ⟨A3, n3, c3, rfl, ho3, hb3⟩
  have z3 := hb3.size
  have q3 := q2.trans (hb3.mono (by omega))
  have X3 := Lib.hid ((hb3.block w.heap.size (by omega)).trans X2.out)
  have M3 := Lib.hid ((hb3.block (w.heap.size + 1) (by omega)).trans M2.out)
  go_wp2_with fail
  refine (rget_any _ B nb cb lb ?hb4).mono ?_
  case hb4 => exact ((h.below q3).more q3.size).alloc (Nat.le_refl _) _ |>.more (by simp)
  rw [HG.out]
  rintro e w4 ⟨A4, n4, c4, rfl, ho4, hb4⟩
  have z4 := hb4.size
  simp at z4
  have G4 := Lib.hid ((hb4.block w3.heap.size (by simp)).trans (heap_alloc_at rfl))
  have q4 := (q3.alloc (by omega) _).trans (hb4.mono (by simp; omega))
  have X4 := Lib.hid ((hb4.block w.heap.size (by simp; omega)).trans (heap_alloc_of X3.out))
  have M4 := Lib.hid ((hb4.block (w.heap.size + 1) (by simp; omega)).trans (heap_alloc_of M3.out))
  have G4b := Lib.hid ((ho3.bs.alloc (Nat.le_refl _) _).below (hb4.mono (by simp)))
  have X4c := cells_of (heap_alloc_of (o := .cells (frC gd gf gt A4 n4 c4) 35) X4.out)
  obtain ⟨k4, f4⟩ := X4c
  go_wp2_with fail
  refine (put_any _ t f k A n c l ?hb5).mono ?_
  case hb5 => exact ((h'.below q4).more q4.size).alloc (Nat.le_refl _) _ |>.more (by simp)
  rw [HP.out]
  rintro e w5 ⟨A5, n5, c5, rfl, ho5, hb5⟩
  have z5 := hb5.size
  simp at z5
  have R5 := Lib.hid ((hb5.block w4.heap.size (by simp)).trans (heap_alloc_at rfl))
  have q5 := (q4.alloc (by omega) _).trans (hb5.mono (by simp; omega))
  have X5 := Lib.hid ((hb5.block w.heap.size (by simp; omega)).trans (heap_alloc_of X4.out))
  have M5 := Lib.hid ((hb5.block (w.heap.size + 1) (by simp; omega)).trans (heap_alloc_of M4.out))
  have G5 := Lib.hid ((hb5.block w3.heap.size (by simp; omega)).trans (heap_alloc_of G4.out))
  have G5b := Lib.hid ((G4b.out.alloc (by omega) _).below (hb5.mono (by simp; omega)))
  have R5b := Lib.hid ((ho4.bs.alloc (Nat.le_refl _) _).below (hb5.mono (by simp)))
  clear k4 f4
  obtain ⟨k5, f5⟩ := cells_of X5.out
  go_wp2_with fail
  refine (own4_any _ t f k A n c).mono ?_
  rintro e w6 ⟨rfl, hb6⟩
  have z6 := hb6.size
  have q6 := q5.trans (hb6.mono (by omega))
  go_wp2_with fail
  refine (rput_any _ t f k A n c l ((h'.below q6).more q6.size)).mono ?_
  rw [HP.out]
  rintro e w7 ⟨A7, n7, c7, rfl, ho7, hb7⟩
  have z7 := hb7.size
  have q7 := q6.trans (hb7.mono (by omega))
  have b57 : Below w5.heap.size w5 w7 := hb6.trans (hb7.mono z6)
  have X7 := Lib.hid ((b57.block w.heap.size (by omega)).trans X5.out)
  have M7 := Lib.hid ((b57.block (w.heap.size + 1) (by omega)).trans M5.out)
  have G7 := Lib.hid ((b57.block w3.heap.size (by omega)).trans G5.out)
  have R7 := Lib.hid ((b57.block w4.heap.size (by omega)).trans R5.out)
  have G7b := Lib.hid (G5b.out.below (b57.mono (by omega)))
  have R7b := Lib.hid (R5b.out.below (b57.mono (by omega)))
  have c7b := ho5.below b57
  clear k5 f5
  go_upto_region 9 with fail
  refine rg_begin (fun _ => False) (by kernel_rfl) ?_
  have C1 := Ext.cells (M := fun _ => False) (w := w7.drew) G7.out (fun h => h)
  have C2 := Ext.cells (M := fun _ => False) (w := w7.drew) R7.out (fun h => h)
  refine rg_take (v := ?_) 0 rfl (by kernel_rfl) (by kernel_rfl) (by kernel_rfl) (fun _ _ _ h => h) (by rfl) ?_ ?_; rotate_left
  · (intro x hx; go_simp; first | done | with_reducible rfl | (rw [if_pos (by omega)]; try with_reducible rfl))
  try simp only [Act.put, List.setIfInBounds_toArray, List.set_cons_zero, List.set_cons_succ]
  refine rg_take (v := ?_) 1 rfl (by kernel_rfl) (by kernel_rfl) (by kernel_rfl) (fun _ _ _ h => h) (by rfl) ?_ ?_; rotate_left
  · (intro x hx; go_simp; first | done | with_reducible rfl | (rw [if_pos (by omega)]; try with_reducible rfl))
  try simp only [Act.put, List.setIfInBounds_toArray, List.set_cons_zero, List.set_cons_succ]
  refine rg_take (v := ?_) 2 rfl (by kernel_rfl) (by kernel_rfl) (by kernel_rfl) (fun _ _ _ h => h) (by rfl) ?_ ?_; rotate_left
  · (intro x hx; go_simp; first | done | with_reducible rfl | (rw [if_pos (by omega)]; try with_reducible rfl))
  try simp only [Act.put, List.setIfInBounds_toArray, List.set_cons_zero, List.set_cons_succ]
  refine rg_take (v := ?_) 3 rfl (by kernel_rfl) (by kernel_rfl) (by kernel_rfl) (fun _ _ _ h => h) (by rfl) ?_ ?_; rotate_left
  · (intro x hx; go_simp; first | done | with_reducible rfl | (rw [if_pos (by omega)]; try with_reducible rfl))
  try simp only [Act.put, List.setIfInBounds_toArray, List.set_cons_zero, List.set_cons_succ]
  refine rg_take (v := ?_) 4 rfl (by kernel_rfl) (by kernel_rfl) (by kernel_rfl) (fun _ _ _ h => h) (by rfl) ?_ ?_; rotate_left
  · (intro x hx; go_simp; first | done | with_reducible rfl | (rw [if_pos (by omega)]; try with_reducible rfl))
  try simp only [Act.put, List.setIfInBounds_toArray, List.set_cons_zero, List.set_cons_succ]
  refine rg_take (v := ?_) 5 rfl (by kernel_rfl) (by kernel_rfl) (by kernel_rfl) (fun _ _ _ h => h) (by rfl) ?_ ?_; rotate_left
  · (intro x hx; go_simp; first | done | with_reducible rfl | (rw [if_pos (by omega)]; try with_reducible rfl))
  try simp only [Act.put, List.setIfInBounds_toArray, List.set_cons_zero, List.set_cons_succ]
  refine rg_step 6 rfl (by kernel_rfl) (by rfl) (fun K hK => ?_)
  go_simp
  refine (same4_eq w7.drew gd gf gt _ _ _ _ _ _ gb (G7b.out.drew.more (by simp; omega)) (R7b.out.drew.more (by simp; omega))).mono ?_
  rintro e w8 ⟨rfl, hb8⟩
  have z8 := hb8.size
  simp at z8
  have S1 := (c7b.drew.below hb8).reads (M := fun _ => False) (fun _ _ _ h => h)
  have S2 := (ho7.drew.below hb8).reads (M := fun _ => False) (fun _ _ _ h => h)
  have D5 := Ext.cells (M := fun _ => False) ((hb8.block (w.heap.size + 1) (by simp; omega)).trans M7.out) (fun h => h)
  clear C1 C2
  refine hK.out _ _ (Ext.below_all _ hb8) ?_
  clear hK K; try simp only [Act.put, List.setIfInBounds_toArray, List.set_cons_zero, List.set_cons_succ]
  refine rg_take (v := ?_) 7 rfl (by kernel_rfl) (by kernel_rfl) (by kernel_rfl) (fun _ _ _ h => h) (by rfl) ?_ ?_; rotate_left
  · (intro x hx; go_simp; first | done | with_reducible rfl | (rw [if_pos (by omega)]; try with_reducible rfl))
  try simp only [Act.put, List.setIfInBounds_toArray, List.set_cons_zero, List.set_cons_succ]
  refine rg_take (v := ?_) 8 rfl (by kernel_rfl) (by kernel_rfl) (by kernel_rfl) (fun _ _ _ h => h) (by rfl) ?_ ?_; rotate_left
  · (intro x hx; go_simp; first | done | with_reducible rfl | (rw [if_pos (by omega)]; try with_reducible rfl))
  try simp only [Act.put, List.setIfInBounds_toArray, List.set_cons_zero, List.set_cons_succ]
  refine rg_take (v := ?_) 9 rfl (by kernel_rfl) (by kernel_rfl) (by kernel_rfl) (fun _ _ _ h => h) (by rfl) ?_ ?_; rotate_left
  · (intro x hx; go_simp; first | done | with_reducible rfl | (rw [if_pos (by omega)]; try with_reducible rfl))
  try simp only [Act.put, List.setIfInBounds_toArray, List.set_cons_zero, List.set_cons_succ]
  refine rg_take (v := ?_) 10 rfl (by kernel_rfl) (by kernel_rfl) (by kernel_rfl) (fun _ _ _ h => h) (by rfl) ?_ ?_; rotate_left
  · (intro x hx; go_simp; first | done | with_reducible rfl | (rw [if_pos (by omega)]; try with_reducible rfl))
  try simp only [Act.put, List.setIfInBounds_toArray, List.set_cons_zero, List.set_cons_succ]
  refine rg_take (v := ?_) 11 rfl (by kernel_rfl) (by kernel_rfl) (by kernel_rfl) (fun _ _ _ h => h) (by rfl) ?_ ?_; rotate_left
  · (intro x hx; go_simp; first | done | with_reducible rfl | (rw [if_pos (by omega)]; try with_reducible rfl))
  try simp only [Act.put, List.setIfInBounds_toArray, List.set_cons_zero, List.set_cons_succ]
  refine rg_take (v := ?_) 12 rfl (by kernel_rfl) (by kernel_rfl) (by kernel_rfl) (fun _ _ _ h => h) (by rfl) ?_ ?_; rotate_left
  · (intro x hx; go_simp; first | done | with_reducible rfl | (rw [if_pos (by omega)]; try with_reducible rfl))
  try simp only [Act.put, List.setIfInBounds_toArray, List.set_cons_zero, List.set_cons_succ]
  refine rg_take (v := ?_) 13 rfl (by kernel_rfl) (by kernel_rfl) (by kernel_rfl) (fun _ _ _ h => h) (by rfl) ?_ ?_; rotate_left
  · (intro x hx; go_simp; first | done | with_reducible rfl | (rw [if_pos (by omega)]; try with_reducible rfl))
  try simp only [Act.put, List.setIfInBounds_toArray, List.set_cons_zero, List.set_cons_succ]
  refine rg_take (v := ?_) 14 rfl (by kernel_rfl) (by kernel_rfl) (by kernel_rfl) (fun _ _ _ h => h) (by rfl) ?_ ?_; rotate_left
  · (intro x hx; go_simp; first | done | with_reducible rfl | (rw [if_pos (by omega)]; try with_reducible rfl))
  try simp only [Act.put, List.setIfInBounds_toArray, List.set_cons_zero, List.set_cons_succ]
  refine rg_take (v := ?_) 15 rfl (by kernel_rfl) (by kernel_rfl) (by kernel_rfl) (fun _ _ _ h => h) (by rfl) ?_ ?_; rotate_left
  · (intro x hx; go_simp; first | done | with_reducible rfl | (rw [if_pos (by omega)]; try with_reducible rfl))
  try simp only [Act.put, List.setIfInBounds_toArray, List.set_cons_zero, List.set_cons_succ]
  refine rg_take (v := ?_) 16 rfl (by kernel_rfl) (by kernel_rfl) (by kernel_rfl) (fun _ _ _ h => h) (by rfl) ?_ ?_; rotate_left
  · (intro x hx; go_simp; first | done | with_reducible rfl | (rw [if_pos (by omega)]; try with_reducible rfl))
  try simp only [Act.put, List.setIfInBounds_toArray, List.set_cons_zero, List.set_cons_succ]
  refine rg_take (v := ?_) 17 rfl (by kernel_rfl) (by kernel_rfl) (by kernel_rfl) (fun _ _ _ h => h) (by rfl) ?_ ?_; rotate_left
  · (intro x hx; go_simp; first | done | with_reducible rfl | (rw [if_pos (by omega)]; try with_reducible rfl))
  try simp only [Act.put, List.setIfInBounds_toArray, List.set_cons_zero, List.set_cons_succ]
  refine rg_take (v := ?_) 18 rfl (by kernel_rfl) (by kernel_rfl) (by kernel_rfl) (fun _ _ _ h => h) (by rfl) ?_ ?_; rotate_left
  · (intro x hx; go_simp; first | done | with_reducible rfl | (rw [if_pos (by omega)]; try with_reducible rfl))
  try simp only [Act.put, List.setIfInBounds_toArray, List.set_cons_zero, List.set_cons_succ]
  refine rg_take (v := ?_) 19 rfl (by kernel_rfl) (by kernel_rfl) (by kernel_rfl) (fun _ _ _ h => h) (by rfl) ?_ ?_; rotate_left
  · (intro x hx; go_simp; first | done | with_reducible rfl | (rw [if_pos (by omega)]; try with_reducible rfl))
  try simp only [Act.put, List.setIfInBounds_toArray, List.set_cons_zero, List.set_cons_succ]
  refine rg_take (v := ?_) 20 rfl (by kernel_rfl) (by kernel_rfl) (by kernel_rfl) (fun _ _ _ h => h) (by rfl) ?_ ?_; rotate_left
  · (intro x hx; go_simp; first | done | with_reducible rfl | (rw [if_pos (by omega)]; try with_reducible rfl))
  try simp only [Act.put, List.setIfInBounds_toArray, List.set_cons_zero, List.set_cons_succ]
  refine rg_take (v := ?_) 21 rfl (by kernel_rfl) (by kernel_rfl) (by kernel_rfl) (fun _ _ _ h => h) (by rfl) ?_ ?_; rotate_left
  · (intro x hx; go_simp; first | done | with_reducible rfl | (rw [if_pos (by omega)]; try with_reducible rfl))
  try simp only [Act.put, List.setIfInBounds_toArray, List.set_cons_zero, List.set_cons_succ]
  refine rg_take (v := ?_) 23 rfl (by kernel_rfl) (by kernel_rfl) (by kernel_rfl) (fun _ _ _ h => h) (by rfl) ?_ ?_; rotate_left
  · (intro x hx; go_simp; first | done | with_reducible rfl | (rw [if_pos (by omega)]; try with_reducible rfl))
  try simp only [Act.put, List.setIfInBounds_toArray, List.set_cons_zero, List.set_cons_succ]
  refine rg_step 22 rfl (by kernel_rfl) (by rfl) (fun K hK => ?_)
  go_simp
  refine (group_any _ m).mono ?_
  rintro e w9 ⟨rfl, hb9⟩
  have z9 := hb9.size
  clear S1 S2 D5
  refine hK.out _ _ (Ext.below_all _ hb9) ?_
  clear hK K; try simp only [Act.put, List.setIfInBounds_toArray, List.set_cons_zero, List.set_cons_succ]
  refine rg_step 24 rfl (by kernel_rfl) (by rfl) (fun K hK => ?_)
  go_simp
  refine (rgroup_any _ m).mono ?_
  rintro e w10 ⟨rfl, hb10⟩
  have z10 := hb10.size
  have b710 : Below w7.heap.size w7 w10 := ((Below.refl _ w7).drew.trans (hb8.mono (by simp))).trans ((hb9.mono (by omega)).trans (hb10.mono (by omega)))
  have E5 := Ext.cells (M := fun _ => False) ((b710.block (w.heap.size + 1) (by omega)).trans M7.out) (fun h => h)
  have E4 := Ext.cells (M := fun _ => False) ((b710.block w.heap.size (by omega)).trans X7.out) (fun h => h)
  refine hK.out _ _ (Ext.below_all _ hb10) ?_
  clear hK K; try simp only [Act.put, List.setIfInBounds_toArray, List.set_cons_zero, List.set_cons_succ]
  refine rg_take (v := ?_) 25 rfl (by kernel_rfl) (by kernel_rfl) (by kernel_rfl) (fun _ _ _ h => h) (by rfl) ?_ ?_; rotate_left
  · (intro x hx; go_simp; first | done | with_reducible rfl | (rw [if_pos (by omega)]; try with_reducible rfl))
  try simp only [Act.put, List.setIfInBounds_toArray, List.set_cons_zero, List.set_cons_succ]
  refine rg_take (v := ?_) 26 rfl (by kernel_rfl) (by kernel_rfl) (by kernel_rfl) (fun _ _ _ h => h) (by rfl) ?_ ?_; rotate_left
  · (intro x hx; go_simp; first | done | with_reducible rfl | (rw [if_pos (by omega)]; try with_reducible rfl))
  try simp only [Act.put, List.setIfInBounds_toArray, List.set_cons_zero, List.set_cons_succ]
  refine rg_take (v := ?_) 27 rfl (by kernel_rfl) (by kernel_rfl) (by kernel_rfl) (fun _ _ _ h => h) (by rfl) ?_ ?_; rotate_left
  · (intro x hx; go_simp; first | done | with_reducible rfl | (rw [if_pos (by omega)]; try with_reducible rfl))
  try simp only [Act.put, List.setIfInBounds_toArray, List.set_cons_zero, List.set_cons_succ]
  refine rg_take (v := ?_) 28 rfl (by kernel_rfl) (by kernel_rfl) (by kernel_rfl) (fun _ _ _ h => h) (by rfl) ?_ ?_; rotate_left
  · (intro x hx; go_simp; first | done | with_reducible rfl | (rw [if_pos (by omega)]; try with_reducible rfl))
  try simp only [Act.put, List.setIfInBounds_toArray, List.set_cons_zero, List.set_cons_succ]
  refine rg_take (v := ?_) 29 rfl (by kernel_rfl) (by kernel_rfl) (by kernel_rfl) (fun _ _ _ h => h) (by rfl) ?_ ?_; rotate_left
  · (intro x hx; go_simp; first | done | with_reducible rfl | (rw [if_pos (by omega)]; try with_reducible rfl))
  try simp only [Act.put, List.setIfInBounds_toArray, List.set_cons_zero, List.set_cons_succ]
  refine rg_take (v := ?_) 30 rfl (by kernel_rfl) (by kernel_rfl) (by kernel_rfl) (fun _ _ _ h => h) (by rfl) ?_ ?_; rotate_left
  · (intro x hx; go_simp; first | done | with_reducible rfl | (rw [if_pos (by omega)]; try with_reducible rfl))
  try simp only [Act.put, List.setIfInBounds_toArray, List.set_cons_zero, List.set_cons_succ]
  refine rg_take (v := ?_) 32 rfl (by kernel_rfl) (by kernel_rfl) (by kernel_rfl) (fun _ _ _ h => h) (by rfl) ?_ ?_; rotate_left
  · (intro x hx; go_simp; first | done | with_reducible rfl | (rw [if_pos (by omega)]; try with_reducible rfl))
  try simp only [Act.put, List.setIfInBounds_toArray, List.set_cons_zero, List.set_cons_succ]
  refine rg_take (v := ?_) 33 rfl (by kernel_rfl) (by kernel_rfl) (by kernel_rfl) (fun _ _ _ h => h) (by rfl) ?_ ?_; rotate_left
  · (intro x hx; go_simp; first | done | with_reducible rfl | (rw [if_pos (by omega)]; try with_reducible rfl))
  try simp only [Act.put, List.setIfInBounds_toArray, List.set_cons_zero, List.set_cons_succ]
  refine rg_take (v := ?_) 34 rfl (by kernel_rfl) (by kernel_rfl) (by kernel_rfl) (fun _ _ _ h => h) (by rfl) ?_ ?_; rotate_left
  · (intro x hx; go_simp; first | done | with_reducible rfl | (rw [if_pos (by omega)]; try with_reducible rfl))
  try simp only [Act.put, List.setIfInBounds_toArray, List.set_cons_zero, List.set_cons_succ]
  refine rg_step 31 rfl (by kernel_rfl) (by rfl) (fun K hK => ?_)
  go_simp
  refine (mine_any _ m f).mono ?_
  rintro e w11 ⟨rfl, hb11⟩
  have z11 := hb11.size
  clear E4 E5
  refine hK.out _ _ (Ext.below_all _ hb11) ?_
  clear hK K; try simp only [Act.put, List.setIfInBounds_toArray, List.set_cons_zero, List.set_cons_succ]
  refine rg_step 35 rfl (by kernel_rfl) (by rfl) (fun K hK => ?_)
  go_simp
  refine (rmine_any _ m f).mono ?_
  rintro e w12 ⟨rfl, hb12⟩
  refine hK.out _ _ (Ext.below_all _ hb12) ?_
  clear hK K; try simp only [Act.put, List.setIfInBounds_toArray, List.set_cons_zero, List.set_cons_succ]
  refine rg_take (v := ?_) 36 rfl (by kernel_rfl) (by kernel_rfl) (by kernel_rfl) (fun _ _ _ h => h) (by rfl) ?_ ?_; rotate_left
  · (intro x hx; go_simp; first | done | with_reducible rfl | (rw [if_pos (by omega)]; try with_reducible rfl))
  try simp only [Act.put, List.setIfInBounds_toArray, List.set_cons_zero, List.set_cons_succ]
  refine rg_take (v := ?_) 37 rfl (by kernel_rfl) (by kernel_rfl) (by kernel_rfl) (fun _ _ _ h => h) (by rfl) ?_ ?_; rotate_left
  · (intro x hx; go_simp; first | done | with_reducible rfl | (rw [if_pos (by omega)]; try with_reducible rfl))
  try simp only [Act.put, List.setIfInBounds_toArray, List.set_cons_zero, List.set_cons_succ]
  refine rg_take (v := ?_) 38 rfl (by kernel_rfl) (by kernel_rfl) (by kernel_rfl) (fun _ _ _ h => h) (by rfl) ?_ ?_; rotate_left
  · (intro x hx; go_simp; first | done | with_reducible rfl | (rw [if_pos (by omega)]; try with_reducible rfl))
  try simp only [Act.put, List.setIfInBounds_toArray, List.set_cons_zero, List.set_cons_succ]
  refine rg_done (by kernel_rfl) ?_
  go_wp2_with fail
  go_ret
  exact ⟨rfl, ((q7.trans (b710.mono (by omega))).trans (hb11.mono (by omega))).trans (hb12.mono (by omega))⟩

theorem says_walk (w : World) (B : Option Addr) (nb cb : Nat) (lb : List UInt8) (h : BS w w.heap.size B nb cb lb) (t f : Mac6) (k : Int) (A : Option Addr) (n c : Nat) (l : List UInt8) (h' : BS w w.heap.size A n c l) (m : Mac6) (_ : True) :
    Calls Try.prog 4 #[.slice B nb cb, frV t f k A n c, macV m] w (TruePost w) := by
  have hmb : nb ≤ 9223372036854775807 := by have h1 := h.2.1; have h2 := h.2.2.1; unfold maxLen at h2; omega
  have hmx : n ≤ 9223372036854775807 := by have h1 := h'.2.1; have h2 := h'.2.2.1; unfold maxLen at h2; omega
  by_cases hc : nb ≤ 1600 ∧ n ≤ 1600
  · exact says_in w B nb cb lb t f k A n c l m h h' hc.1 hc.2
  · exact says_out w B nb cb t f k A n c m hmb hmx (by omega)
end Go.Proofs.Ytjmeehmbccilkaa
