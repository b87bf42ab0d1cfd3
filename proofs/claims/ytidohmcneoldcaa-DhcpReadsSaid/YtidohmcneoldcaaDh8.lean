/-
  Contract of the reference's Get: the message read.
-/
import Derived.Test.YtidohmcneoldcaaDh7
import Derived.Test.YtidohmcneoldcaaRegion2
namespace Go.Proofs.Ytidohmcneoldcaa
open Go.RowKit

theorem six_of (l : List UInt8) (h : 6 ≤ l.length) : ∃ a b c d e f r, l = a :: b :: c :: d :: e :: f :: r := by
  match l, h with
  | a :: b :: c :: d :: e :: f :: r, _ => exact ⟨a, b, c, d, e, f, r, rfl⟩

theorem alloc_pack {w2 w : World} {H : Nat} (rr : Below H w2 w) (ob : Obj) (hH : H ≤ w.heap.size := by first | exact Below.size (by assumption) | omega) : ∃ w' p, w.alloc ob = w' ∧ w.heap.size = p ∧ w'.heap[p]? = some ob ∧ Below H w2 w' ∧ H ≤ p :=
  ⟨_, _, rfl, rfl, heap_alloc_new w ob, rr.alloc hH ob, hH⟩
/-- A Mac of the first bytes of a list, the others nought. -/
def macK (L : List UInt8) (j : Nat) : Mac6 := macOf (L.take j ++ List.replicate (6 - j) 0)
theorem splice_mac1 (hd : Hd) (A : Option Addr) (n c : Nat) (L : List UInt8) (j : Nat) (y : UInt8) (hm : hd.mac = macK L j) (hy : L[j]? = some y) (hj : j < 6) :
    spliceAt (msC hd A n c) (21 + j) [.int .u8 (y.toNat : Int)] = msC ⟨hd.op, hd.hops, hd.xid, hd.secs, hd.flags, hd.cl, hd.yo, hd.se, hd.re, macK L (j + 1)⟩ A n c := by
  have ht : L.take (j + 1) = L.take j ++ [y] := by
    rw [List.take_add_one, hy]; rfl
  have hl : (L.take j).length = j := by
    have := (List.getElem?_eq_some_iff.1 hy).1
    simp; omega
  rw [macK, ht]
  simp only [msC, hm, macK]
  generalize L.take j = X at hl ⊢
  match j, hj, X, hl with
  | 0, _, [], _ => simp [spliceAt, macOf]
  | 1, _, [_], _ => simp [spliceAt, macOf]
  | 2, _, [_, _], _ => simp [spliceAt, macOf]
  | 3, _, [_, _, _], _ => simp [spliceAt, macOf]
  | 4, _, [_, _, _, _], _ => simp [spliceAt, macOf]
  | 5, _, [_, _, _, _, _], _ => simp [spliceAt, macOf]
/-- How it stands behind the reference's literal of a message. -/
def RCut (w2 : World) (T : TypeId) (hd : Hd) (A : Option Addr) (n c : Nat) (v : Value) (wx : World) : Prop :=
  ∃ p, v = .pointer (some ⟨p, 0, none⟩) ∧ w2.heap.size ≤ p ∧ wx.heap[p]? = some (.cells (msC hd A n c) T (0, 0)) ∧ Below w2.heap.size w2 wx

set_option maxRecDepth 100000 in
set_option maxHeartbeats 1000000 in
theorem rgetm_none (w : World) (b o n c : Nat) (l : List UInt8) (h : BS w w.heap.size (some ⟨b, o, none⟩) n c l) (hn : 240 ≤ n) (hmx : n ≤ 1099511627776) (hg : getO (l.drop 240) = none) (k0 : Int) (hb : b < w.heap.size)
    (hh : RHead w b o k0 1 6) (h0 : k0 = 1 ∨ k0 = 2) (hs : BS w w.heap.size (some ⟨b, o + 236, none⟩) 4 (c - 236) cook) :
    Calls Try.prog 28 #[.slice (some ⟨b, o, none⟩) n c] w (MsPost w ((Hd.zero, []), 3)) := by
  have HG := Lib.hid hg
  have hnc := h.2.1
  have hnl := Lib.hid (show (l.drop 240).length ≤ 1099511627776 by rw [List.length_drop]; have := h.1; omega)
  have hcm : c ≤ 9223372036854775807 := by have h2 := h.2.2.1; unfold maxLen at h2; omega
  have D := fun ob => (World.cell?_alloc_lt w ob ⟨b, o, none⟩ hb).trans hh.c0
  have D1 := fun ob => (World.cell?_alloc_lt w ob ⟨b, o + 1, none⟩ hb).trans hh.c1
  have D2 := fun ob => (World.cell?_alloc_lt w ob ⟨b, o + 2, none⟩ hb).trans hh.c2
  have i236 : ¬ c = 236 := by omega
  have s4 := fun ob => run_str (hs.alloc (Nat.le_refl _) ob)
  rw [show str cook = { data := #[99, 130, 83, 99] } from rfl] at s4
  have hd := h.drop (k := 240) (by omega)
  have b0 : Below w.heap.size w (w.alloc (.cells mz 62)) := (Below.refl _ w).alloc (Nat.le_refl _) _
  clear hh hs hg h
  by_cases hc : c = 240
  case' pos =>
    obtain rfl : n = 240 := by omega
    subst hc
    rw [if_pos rfl, Nat.sub_self] at hd
  case' neg => rw [if_neg hc] at hd
  all_goals rcases h0 with rfl | rfl
  all_goals
    go_enter Try.func28, Try.ntmps28
    go_upto_region 5 with fail
    go_wp2_with fail
    refine (rget_u _ _ _ _ (l.drop 240) ((hd.below b0).more b0.size) hnl.out [] 3 false (.inr ⟨HG.out, rfl, rfl, rfl⟩)).mono ?_
    rintro e w2 ⟨A3, n3, c3, l3, rfl, _, _, hb2⟩
    have X2 : w2.heap[w.heap.size]? = some (.cells mz 62 (0, 0)) := below_at hb2 (heap_alloc_at rfl) (by simp)
    have q2 := b0.trans (hb2.mono b0.size)
    clear hb2 D D1 D2 s4
    go_wp2_with ((with_reducible apply at_store_part 62); (case hx => exact rfl); (case hy => exact rfl); (case hg => exact X2); (case hle => simp); (case hi => kernel_rfl); (case h1 => kernel_rfl); (intro w3 g3 X3; replace X3 := Lib.hid X3))
    have X3' : w3.heap[w.heap.size]? = some (.cells mz 62 (0, 0)) := X3.out
    refine bodyPost_cell_tmp w.heap.size _ _ _ rfl rfl X3' Try.underlying62 rfl (by kernel_rfl) rfl ?_
    have := MsPost.none_ (k := 3) (below_grown q2 g3 q2.size (Nat.le_refl _))
    rw [msV, msC_zero] at this
    exact this

theorem drop28 (l : List UInt8) (a b c d e f : UInt8) (r : List UInt8) (h : l.drop 28 = a :: b :: c :: d :: e :: f :: r) (j : Nat) (hj : j < 6) : l[28 + j]? = [a, b, c, d, e, f][j]? := by
  have h1 : (l.drop 28)[j]? = l[28 + j]? := List.getElem?_drop
  rw [← h1, h]
  match j, hj with
  | 0, _ => rfl
  | 1, _ => rfl
  | 2, _ => rfl
  | 3, _ => rfl
  | 4, _ => rfl
  | 5, _ => rfl

set_option maxRecDepth 100000 in
set_option maxHeartbeats 4000000 in
theorem rgetm_ok (w : World) (b o n c : Nat) (l : List UInt8) (h : BS w w.heap.size (some ⟨b, o, none⟩) n c l) (hn : 240 ≤ n) (hmx : n ≤ 1099511627776) (os : List Ob) (hg : getO (l.drop 240) = some os) (k0 : Nat) (hb : b < w.heap.size)
    (hh : RHead w b o k0 1 6) (h0 : k0 = 1 ∨ k0 = 2) (hk0 : beN ((l.drop 0).take 1) = k0) (hs : BS w w.heap.size (some ⟨b, o + 236, none⟩) 4 (c - 236) cook) :
    Calls Try.prog 28 #[.slice (some ⟨b, o, none⟩) n c] w (MsPost w (if typeO os = 0 then ((Hd.zero, []), 4) else ((hdOf l, os), 0))) := by
  have HG := Lib.hid hg
  have hnc := h.2.1
  have hnl := Lib.hid (show (l.drop 240).length ≤ 1099511627776 by rw [List.length_drop]; have := h.1; omega)
  have hl240 : 240 ≤ l.length := by have := h.1; omega
  have hnm : n ≤ 9223372036854775807 := by omega
  have hcm : c ≤ 9223372036854775807 := by have h2 := h.2.2.1; unfold maxLen at h2; omega
  have D := fun ob => (World.cell?_alloc_lt w ob ⟨b, o, none⟩ hb).trans hh.c0
  have D1 := fun ob => (World.cell?_alloc_lt w ob ⟨b, o + 1, none⟩ hb).trans hh.c1
  have D2 := fun ob => (World.cell?_alloc_lt w ob ⟨b, o + 2, none⟩ hb).trans hh.c2
  have E0 := Lib.hid hh.c0
  obtain ⟨k3, hk3⟩ : ∃ k3, l[3] = k3 := ⟨_, rfl⟩
  obtain ⟨b', o', e, _, hc⟩ := h.byte (k := 0) (by omega)
  injection e with e
  injection e with e1 e2
  subst e1 e2
  have E3 := Lib.hid (show w.cell? ⟨b, o + 3, none⟩ = some (.int .u8 (k3.toNat : Int)) by rw [← hk3]; exact hc 3 (by omega))
  have K3 := Lib.hid (show beN ((l.drop 3).take 1) = k3.toNat by
    rw [List.drop_eq_getElem_cons (show 3 < l.length by omega), hk3]
    simp [beN])
  have hk38 := k3.toNat_lt
  generalize hk3n : k3.toNat = k3n at *
  obtain ⟨ma, mb, mc, md, me, mf, mr, hm⟩ := six_of (l.drop 28) (by simp; omega)
  have HM := Lib.hid (show macOf ((l.drop 28).take 6) = ⟨ma, mb, mc, md, me, mf⟩ by rw [hm]; rfl)
  have HC := Lib.hid (show ∀ j, j < 6 → ∀ y, [ma, mb, mc, md, me, mf][j]? = some y → ∀ w' : World, BS w' w'.heap.size (some ⟨b, o, none⟩) n c l → w'.cell? ⟨b, o + 28 + j, none⟩ = some (.int .u8 (y.toNat : Int)) from fun j hj y hy w' hi => by
    obtain ⟨b', o', e, _, hc⟩ := hi.byte (k := 0) (by omega)
    injection e with e
    injection e with e1 e2
    subst e1 e2
    have h1 := drop28 l _ _ _ _ _ _ _ hm j hj
    rw [hy] at h1
    have h2 := hc (28 + j) (by omega)
    rw [List.getElem?_eq_getElem (by omega)] at h1
    injection h1 with h1
    rw [h1] at h2
    rw [Nat.add_assoc]
    exact h2)
  have i236 : ¬ c = 236 := by omega
  have s4 := fun ob => run_str (hs.alloc (Nat.le_refl _) ob)
  rw [show str cook = { data := #[99, 130, 83, 99] } from rfl] at s4
  have hne := getO_some_ne l os hg
  have hc240 : ¬ c = 240 := by have := h.1; omega
  have hd := h.drop (k := 240) (by omega)
  rw [if_neg hc240] at hd
  have b0 : Below w.heap.size w (w.alloc (.cells mz 62)) := (Below.refl _ w).alloc (Nat.le_refl _) _
  have B12 := Lib.hid (be4_lt l 12)
  rw [hdOf]
  generalize hk4 : beN ((l.drop 4).take 4) = k4
  generalize hk8 : beN ((l.drop 8).take 2) = k8
  generalize hk10 : beN ((l.drop 10).take 2) = k10
  generalize hk12 : of4 (beN ((l.drop 12).take 4)) = a12
  generalize hk16 : of4 (beN ((l.drop 16).take 4)) = a16
  generalize hk20 : of4 (beN ((l.drop 20).take 4)) = a20
  generalize hk24 : of4 (beN ((l.drop 24).take 4)) = a24
  rw [hk0, K3.out, HM.out]
  have K4 := Lib.hid hk4
  have K8 := Lib.hid hk8
  have K10 := Lib.hid hk10
  have K12 := Lib.hid hk12
  have K16 := Lib.hid hk16
  have K20 := Lib.hid hk20
  have K24 := Lib.hid hk24
  obtain ⟨ty, hty⟩ : ∃ ty, typeO os = ty := ⟨_, rfl⟩
  rw [hty]
  have HT := Lib.hid hty
  generalize hr : (if ty = 0 then ((Hd.zero, []), (4 : Int)) else ((⟨(k0 : Nat), (k3n : Nat), (k4 : Nat), (k8 : Nat), (k10 : Nat), a12, a16, a20, a24, ⟨ma, mb, mc, md, me, mf⟩⟩, os), 0)) = r
  have HR := Lib.hid hr
  have w0' : IntKind.i64.wrap (k0 : Int) = (k0 : Int) := IntWalk.i64_in _ (by omega)
  have w3' : IntKind.i64.wrap (k3n : Int) = (k3n : Int) := IntWalk.i64_in _ (by omega)
  clear hh hs hg hk0 hk4 hk8 hk10 hk12 hk16 hk20 hk24 hm hc hk3 hk3n hty hr
  obtain ⟨KK, hKK⟩ : ∃ KK, k0 = KK := ⟨_, rfl⟩
  rw [hKK] at HR
  have HKK := Lib.hid hKK
  clear hKK
  go_enter Try.func28, Try.ntmps28
  go_upto_region 3 with fail
  go_cut [39] (fun v wx => v = .bool false ∧ wx = w.alloc (.cells mz 62))
  case first =>
    rcases h0 with rfl | rfl
    all_goals
      go_wp2_with fail
      go_meet
      exact ⟨rfl, rfl⟩
  case rest =>
    obtain ⟨rfl, rfl⟩ := hcut
    clear D D1 D2 s4
    go_wp2_with fail
    refine (rget_u _ _ _ _ (l.drop 240) ((hd.below b0).more b0.size) hnl.out os 0 true (.inl ⟨HG.out, rfl, rfl⟩)).mono ?_
    rintro e w2 ⟨A3, n3, c3, l3, rfl, ho3, hl3, hb2⟩
    have X2 := Lib.hid (show w2.heap[w.heap.size]? = some (.cells mz 62 (0, 0)) from below_at hb2 (heap_alloc_at rfl) (by simp))
    have q2 := b0.trans (hb2.mono b0.size)
    have os2 := ho3.os
    have HL3 := Lib.hid hl3
    have I2 := (h.below q2).more q2.size
    have hb2' : b < w2.heap.size := by have := q2.size; omega
    have g0 := Ext.cell (w := w2.drew) (M := fun k => w2.heap.size ≤ k) ((q2.cell (p := ⟨b, o, none⟩) hb).trans E0.out) (by omega)
    have g3 := Ext.cell (w := w2.drew) (M := fun k => w2.heap.size ≤ k) ((q2.cell (p := ⟨b, o + 3, none⟩) hb).trans E3.out) (by omega)
    have r2 : Below w2.heap.size w2 w2.drew := (Below.refl _ _).drew
    clear hb2 hl3
    go_upto_region 8 with fail
    go_cut [6] (fun v wx => RCut w2 62 ⟨(KK : Nat), (k3n : Nat), (k4 : Nat), (k8 : Nat), (k10 : Nat), a12, a16, a20, a24, mac0⟩ A3 n3 c3 v wx)
    case first =>
      have rr : Below w2.heap.size w2 w2.drew := r2
      refine rg_begin (fun k => w2.heap.size ≤ k) (by kernel_rfl) ?_
      generalize w2.drew = wn at g0 g3 rr ⊢
      refine rg_take (v := ?_) 0 rfl (by kernel_rfl) (by kernel_rfl) (by kernel_rfl) (fun _ _ _ h => h) (by rfl) ?_ ?_; rotate_left
      · (intro x hx; go_simp; first | done | with_reducible rfl | (rw [if_pos (by omega)]; try with_reducible rfl) | (rw [if_neg (by omega)]; try with_reducible rfl))
      try simp only [Act.put, List.setIfInBounds_toArray, List.set_cons_zero, List.set_cons_succ]
      refine rg_take (v := ?_) 1 rfl (by kernel_rfl) (by kernel_rfl) (by kernel_rfl) (fun _ _ _ h => h) (by rfl) ?_ ?_; rotate_left
      · (intro x hx; go_simp; first | done | with_reducible rfl | (rw [if_pos (by omega)]; try with_reducible rfl) | (rw [if_neg (by omega)]; try with_reducible rfl))
      try simp only [Act.put, List.setIfInBounds_toArray, List.set_cons_zero, List.set_cons_succ]
      refine rg_take (v := ?_) 2 rfl (by kernel_rfl) (by kernel_rfl) (by kernel_rfl) (fun _ _ _ h => h) (by rfl) ?_ ?_; rotate_left
      · (intro x hx; go_simp; first | done | with_reducible rfl | (rw [if_pos (by omega)]; try with_reducible rfl) | (rw [if_neg (by omega)]; try with_reducible rfl))
      try simp only [Act.put, List.setIfInBounds_toArray, List.set_cons_zero, List.set_cons_succ]
      refine rg_take (v := ?_) 3 rfl (by kernel_rfl) (by kernel_rfl) (by kernel_rfl) (fun _ _ _ h => h) (by rfl) ?_ ?_; rotate_left
      · (intro x hx; go_simp; first | done | with_reducible rfl | (rw [if_pos (by omega)]; try with_reducible rfl) | (rw [if_neg (by omega)]; try with_reducible rfl))
      try simp only [Act.put, List.setIfInBounds_toArray, List.set_cons_zero, List.set_cons_succ]
      refine rg_take (v := ?_) 4 rfl (by kernel_rfl) (by kernel_rfl) (by kernel_rfl) (fun _ _ _ h => h) (by rfl) ?_ ?_; rotate_left
      · (intro x hx; go_simp; first | done | with_reducible rfl | (rw [if_pos (by omega)]; try with_reducible rfl) | (rw [if_neg (by omega)]; try with_reducible rfl))
      try simp only [Act.put, List.setIfInBounds_toArray, List.set_cons_zero, List.set_cons_succ]
      refine rg_take (v := ?_) 5 rfl (by kernel_rfl) (by kernel_rfl) (by kernel_rfl) (fun _ _ _ h => h) (by rfl) ?_ ?_; rotate_left
      · (intro x hx; go_simp; first | done | with_reducible rfl | (rw [if_pos (by omega)]; try with_reducible rfl) | (rw [if_neg (by omega)]; try with_reducible rfl))
      try simp only [Act.put, List.setIfInBounds_toArray, List.set_cons_zero, List.set_cons_succ]
      refine rg_take (v := ?_) 6 rfl (by kernel_rfl) (by kernel_rfl) (by kernel_rfl) (fun _ _ _ h => h) (by rfl) ?_ ?_; rotate_left
      · (intro x hx; go_simp; first | done | with_reducible rfl | (rw [if_pos (by omega)]; try with_reducible rfl) | (rw [if_neg (by omega)]; try with_reducible rfl))
      try simp only [Act.put, List.setIfInBounds_toArray, List.set_cons_zero, List.set_cons_succ]
      refine rg_take (v := ?_) 7 rfl (by kernel_rfl) (by kernel_rfl) (by kernel_rfl) (fun _ _ _ h => h) (by rfl) ?_ ?_; rotate_left
      · (intro x hx; go_simp; first | done | with_reducible rfl | (rw [if_pos (by omega)]; try with_reducible rfl) | (rw [if_neg (by omega)]; try with_reducible rfl))
      try simp only [Act.put, List.setIfInBounds_toArray, List.set_cons_zero, List.set_cons_succ]
      refine rg_take (v := ?_) 8 rfl (by kernel_rfl) (by kernel_rfl) (by kernel_rfl) (fun _ _ _ h => h) (by rfl) ?_ ?_; rotate_left
      · (intro x hx; go_simp; first | done | with_reducible rfl | (rw [if_pos (by omega)]; try with_reducible rfl) | (rw [if_neg (by omega)]; try with_reducible rfl))
      try simp only [Act.put, List.setIfInBounds_toArray, List.set_cons_zero, List.set_cons_succ]
      refine rg_take (v := ?_) 10 rfl (by kernel_rfl) (by kernel_rfl) (by kernel_rfl) (fun _ _ _ h => h) (by rfl) ?_ ?_; rotate_left
      · (intro x hx; go_simp; first | done | with_reducible rfl | (rw [if_pos (by omega)]; try with_reducible rfl) | (rw [if_neg (by omega)]; try with_reducible rfl))
      try simp only [Act.put, List.setIfInBounds_toArray, List.set_cons_zero, List.set_cons_succ]
      refine rg_take (v := ?_) 12 rfl (by kernel_rfl) (by kernel_rfl) (by kernel_rfl) (fun _ _ _ h => h) (by rfl) ?_ ?_; rotate_left
      · (intro x hx; go_simp; first | done | with_reducible rfl | (rw [if_pos (by omega)]; try with_reducible rfl) | (rw [if_neg (by omega)]; try with_reducible rfl))
      try simp only [Act.put, List.setIfInBounds_toArray, List.set_cons_zero, List.set_cons_succ]
      refine rg_take (v := ?_) 14 rfl (by kernel_rfl) (by kernel_rfl) (by kernel_rfl) (fun _ _ _ h => h) (by rfl) ?_ ?_; rotate_left
      · (intro x hx; go_simp; first | done | with_reducible rfl | (rw [if_pos (by omega)]; try with_reducible rfl) | (rw [if_neg (by omega)]; try with_reducible rfl))
      try simp only [Act.put, List.setIfInBounds_toArray, List.set_cons_zero, List.set_cons_succ]
      refine rg_take (v := ?_) 16 rfl (by kernel_rfl) (by kernel_rfl) (by kernel_rfl) (fun _ _ _ h => h) (by rfl) ?_ ?_; rotate_left
      · (intro x hx; go_simp; first | done | with_reducible rfl | (rw [if_pos (by omega)]; try with_reducible rfl) | (rw [if_neg (by omega)]; try with_reducible rfl))
      try simp only [Act.put, List.setIfInBounds_toArray, List.set_cons_zero, List.set_cons_succ]
      refine rg_take (v := ?_) 18 rfl (by kernel_rfl) (by kernel_rfl) (by kernel_rfl) (fun _ _ _ h => h) (by rfl) ?_ ?_; rotate_left
      · (intro x hx; go_simp; first | done | with_reducible rfl | (rw [if_pos (by omega)]; try with_reducible rfl) | (rw [if_neg (by omega)]; try with_reducible rfl))
      try simp only [Act.put, List.setIfInBounds_toArray, List.set_cons_zero, List.set_cons_succ]
      refine rg_take (v := ?_) 20 rfl (by kernel_rfl) (by kernel_rfl) (by kernel_rfl) (fun _ _ _ h => h) (by rfl) ?_ ?_; rotate_left
      · (intro x hx; go_simp; first | done | with_reducible rfl | (rw [if_pos (by omega)]; try with_reducible rfl) | (rw [if_neg (by omega)]; try with_reducible rfl))
      try simp only [Act.put, List.setIfInBounds_toArray, List.set_cons_zero, List.set_cons_succ]
      refine rg_take (v := ?_) 22 rfl (by kernel_rfl) (by kernel_rfl) (by kernel_rfl) (fun _ _ _ h => h) (by rfl) ?_ ?_; rotate_left
      · (intro x hx; go_simp; first | done | with_reducible rfl | (rw [if_pos (by omega)]; try with_reducible rfl) | (rw [if_neg (by omega)]; try with_reducible rfl))
      try simp only [Act.put, List.setIfInBounds_toArray, List.set_cons_zero, List.set_cons_succ]
      refine rg_two 9 24 rfl rfl (by kernel_rfl) (by rfl) (by rfl) (fun K hK => ?_) (fun K hK => ?_)
      · go_simp
        refine (at32b _ (some ⟨b, o, none⟩) n c l 4 ((I2.below rr).more rr.size) (by omega) hnm).mono ?_
        rw [K4.out]
        rintro e wn ⟨rfl, hb⟩
        try replace PX := below_at hb PX (heap_lt PX)
        replace rr := rr.trans (hb.mono rr.size)
        refine hK.out _ _ (Ext.below_all _ hb) ?_
        clear hb
        clear hK K; try simp only [Act.put, List.setIfInBounds_toArray, List.set_cons_zero, List.set_cons_succ]
        refine rg_two 11 24 rfl rfl (by kernel_rfl) (by rfl) (by rfl) (fun K hK => ?_) (fun K hK => ?_)
        · go_simp
          refine (at16b _ (some ⟨b, o, none⟩) n c l 8 ((I2.below rr).more rr.size) (by omega) hnm).mono ?_
          rw [K8.out]
          rintro e wn ⟨rfl, hb⟩
          try replace PX := below_at hb PX (heap_lt PX)
          replace rr := rr.trans (hb.mono rr.size)
          refine hK.out _ _ (Ext.below_all _ hb) ?_
          clear hb
          clear hK K; try simp only [Act.put, List.setIfInBounds_toArray, List.set_cons_zero, List.set_cons_succ]
          refine rg_two 13 24 rfl rfl (by kernel_rfl) (by rfl) (by rfl) (fun K hK => ?_) (fun K hK => ?_)
          · go_simp
            refine (at16b _ (some ⟨b, o, none⟩) n c l 10 ((I2.below rr).more rr.size) (by omega) hnm).mono ?_
            rw [K10.out]
            rintro e wn ⟨rfl, hb⟩
            try replace PX := below_at hb PX (heap_lt PX)
            replace rr := rr.trans (hb.mono rr.size)
            refine hK.out _ _ (Ext.below_all _ hb) ?_
            clear hb
            clear hK K; try simp only [Act.put, List.setIfInBounds_toArray, List.set_cons_zero, List.set_cons_succ]
            refine rg_two 15 24 rfl rfl (by kernel_rfl) (by rfl) (by rfl) (fun K hK => ?_) (fun K hK => ?_)
            · go_simp
              refine (raddr12_any _ (some ⟨b, o, none⟩) n c l 12 ((I2.below rr).more rr.size) (by omega) hnm).mono ?_
              rw [K12.out]
              rintro e wn ⟨rfl, hb⟩
              try replace PX := below_at hb PX (heap_lt PX)
              replace rr := rr.trans (hb.mono rr.size)
              refine hK.out _ _ (Ext.below_all _ hb) ?_
              clear hb
              clear hK K; try simp only [Act.put, List.setIfInBounds_toArray, List.set_cons_zero, List.set_cons_succ]
              refine rg_two 17 24 rfl rfl (by kernel_rfl) (by rfl) (by rfl) (fun K hK => ?_) (fun K hK => ?_)
              · go_simp
                refine (raddr12_any _ (some ⟨b, o, none⟩) n c l 16 ((I2.below rr).more rr.size) (by omega) hnm).mono ?_
                rw [K16.out]
                rintro e wn ⟨rfl, hb⟩
                try replace PX := below_at hb PX (heap_lt PX)
                replace rr := rr.trans (hb.mono rr.size)
                refine hK.out _ _ (Ext.below_all _ hb) ?_
                clear hb
                clear hK K; try simp only [Act.put, List.setIfInBounds_toArray, List.set_cons_zero, List.set_cons_succ]
                refine rg_two 19 24 rfl rfl (by kernel_rfl) (by rfl) (by rfl) (fun K hK => ?_) (fun K hK => ?_)
                · go_simp
                  refine (raddr12_any _ (some ⟨b, o, none⟩) n c l 20 ((I2.below rr).more rr.size) (by omega) hnm).mono ?_
                  rw [K20.out]
                  rintro e wn ⟨rfl, hb⟩
                  try replace PX := below_at hb PX (heap_lt PX)
                  replace rr := rr.trans (hb.mono rr.size)
                  refine hK.out _ _ (Ext.below_all _ hb) ?_
                  clear hb
                  clear hK K; try simp only [Act.put, List.setIfInBounds_toArray, List.set_cons_zero, List.set_cons_succ]
                  refine rg_two 21 24 rfl rfl (by kernel_rfl) (by rfl) (by rfl) (fun K hK => ?_) (fun K hK => ?_)
                  · go_simp
                    refine (raddr12_any _ (some ⟨b, o, none⟩) n c l 24 ((I2.below rr).more rr.size) (by omega) hnm).mono ?_
                    rw [K24.out]
                    rintro e wn ⟨rfl, hb⟩
                    try replace PX := below_at hb PX (heap_lt PX)
                    replace rr := rr.trans (hb.mono rr.size)
                    refine hK.out _ _ (Ext.below_all _ hb) ?_
                    clear hb
                    clear hK K; try simp only [Act.put, List.setIfInBounds_toArray, List.set_cons_zero, List.set_cons_succ]
                    refine rg_take (v := ?_) 23 rfl (by kernel_rfl) (by kernel_rfl) (by kernel_rfl) (fun _ _ _ h => h) (by rfl) ?_ ?_; rotate_left
                    · (intro x hx; go_simp; first | done | with_reducible rfl | (rw [if_pos (by omega)]; try with_reducible rfl) | (rw [if_neg (by omega)]; try with_reducible rfl))
                    try simp only [Act.put, List.setIfInBounds_toArray, List.set_cons_zero, List.set_cons_succ]
                    refine rg_step 24 rfl (by kernel_rfl) (by rfl) (fun K hK => ?_)
                    go_simp
                    refine hK.out _ _ ((Ext.refl _ _).alloc _) ?_
                    obtain ⟨wn, p, e1, e2, PX, rr, hp⟩ := alloc_pack rr (.cells mz 62)
                    rw [e1, e2]
                    clear e1 e2
                    clear hK K; try simp only [Act.put, List.setIfInBounds_toArray, List.set_cons_zero, List.set_cons_succ]
                    refine rg_step 25 rfl (by kernel_rfl) (by rfl) (fun K hK => ?_)
                    --RAW
                    apply wp_store_part 62
                    case ho => exact rfl
                    case hx => exact rfl
                    case hy => exact rfl
                    case hg => exact PX
                    case hle => simp
                    case hi => kernel_rfl
                    case h1 => kernel_rfl
                    intro wn gn PX
                    refine hK.out _ _ (Ext.of_grown gn fun k hk => by injection hk with e; omega) ?_
                    clear hK K; try simp only [Act.put, List.setIfInBounds_toArray, List.set_cons_zero, List.set_cons_succ]
                    refine rg_done (by kernel_rfl) ?_
                    --TAIL
                    go_wp2_with fail
                    go_meet
                    have hKK := HKK.out
                    subst hKK
                    exact ⟨p, rfl, hp, PX, below_grown rr gn rr.size hp⟩
                  · go_simp
                    refine hK.out _ _ ((Ext.refl _ _).alloc _) ?_
                    obtain ⟨wn, p, e1, e2, PX, rr, hp⟩ := alloc_pack rr (.cells mz 62)
                    rw [e1, e2]
                    clear e1 e2
                    clear hK K; try simp only [Act.put, List.setIfInBounds_toArray, List.set_cons_zero, List.set_cons_succ]
                    refine rg_step 21 rfl (by kernel_rfl) (by rfl) (fun K hK => ?_)
                    go_simp
                    refine (raddr12_any _ (some ⟨b, o, none⟩) n c l 24 ((I2.below rr).more rr.size) (by omega) hnm).mono ?_
                    rw [K24.out]
                    rintro e wn ⟨rfl, hb⟩
                    try replace PX := below_at hb PX (heap_lt PX)
                    replace rr := rr.trans (hb.mono rr.size)
                    refine hK.out _ _ (Ext.below_all _ hb) ?_
                    clear hb
                    clear hK K; try simp only [Act.put, List.setIfInBounds_toArray, List.set_cons_zero, List.set_cons_succ]
                    refine rg_take (v := ?_) 23 rfl (by kernel_rfl) (by kernel_rfl) (by kernel_rfl) (fun _ _ _ h => h) (by rfl) ?_ ?_; rotate_left
                    · (intro x hx; go_simp; first | done | with_reducible rfl | (rw [if_pos (by omega)]; try with_reducible rfl) | (rw [if_neg (by omega)]; try with_reducible rfl))
                    try simp only [Act.put, List.setIfInBounds_toArray, List.set_cons_zero, List.set_cons_succ]
                    refine rg_step 25 rfl (by kernel_rfl) (by rfl) (fun K hK => ?_)
                    --RAW
                    apply wp_store_part 62
                    case ho => exact rfl
                    case hx => exact rfl
                    case hy => exact rfl
                    case hg => exact PX
                    case hle => simp
                    case hi => kernel_rfl
                    case h1 => kernel_rfl
                    intro wn gn PX
                    refine hK.out _ _ (Ext.of_grown gn fun k hk => by injection hk with e; omega) ?_
                    clear hK K; try simp only [Act.put, List.setIfInBounds_toArray, List.set_cons_zero, List.set_cons_succ]
                    refine rg_done (by kernel_rfl) ?_
                    --TAIL
                    go_wp2_with fail
                    go_meet
                    have hKK := HKK.out
                    subst hKK
                    exact ⟨p, rfl, hp, PX, below_grown rr gn rr.size hp⟩
                · go_simp
                  refine hK.out _ _ ((Ext.refl _ _).alloc _) ?_
                  obtain ⟨wn, p, e1, e2, PX, rr, hp⟩ := alloc_pack rr (.cells mz 62)
                  rw [e1, e2]
                  clear e1 e2
                  clear hK K; try simp only [Act.put, List.setIfInBounds_toArray, List.set_cons_zero, List.set_cons_succ]
                  refine rg_step 19 rfl (by kernel_rfl) (by rfl) (fun K hK => ?_)
                  go_simp
                  refine (raddr12_any _ (some ⟨b, o, none⟩) n c l 20 ((I2.below rr).more rr.size) (by omega) hnm).mono ?_
                  rw [K20.out]
                  rintro e wn ⟨rfl, hb⟩
                  try replace PX := below_at hb PX (heap_lt PX)
                  replace rr := rr.trans (hb.mono rr.size)
                  refine hK.out _ _ (Ext.below_all _ hb) ?_
                  clear hb
                  clear hK K; try simp only [Act.put, List.setIfInBounds_toArray, List.set_cons_zero, List.set_cons_succ]
                  refine rg_step 21 rfl (by kernel_rfl) (by rfl) (fun K hK => ?_)
                  go_simp
                  refine (raddr12_any _ (some ⟨b, o, none⟩) n c l 24 ((I2.below rr).more rr.size) (by omega) hnm).mono ?_
                  rw [K24.out]
                  rintro e wn ⟨rfl, hb⟩
                  try replace PX := below_at hb PX (heap_lt PX)
                  replace rr := rr.trans (hb.mono rr.size)
                  refine hK.out _ _ (Ext.below_all _ hb) ?_
                  clear hb
                  clear hK K; try simp only [Act.put, List.setIfInBounds_toArray, List.set_cons_zero, List.set_cons_succ]
                  refine rg_take (v := ?_) 23 rfl (by kernel_rfl) (by kernel_rfl) (by kernel_rfl) (fun _ _ _ h => h) (by rfl) ?_ ?_; rotate_left
                  · (intro x hx; go_simp; first | done | with_reducible rfl | (rw [if_pos (by omega)]; try with_reducible rfl) | (rw [if_neg (by omega)]; try with_reducible rfl))
                  try simp only [Act.put, List.setIfInBounds_toArray, List.set_cons_zero, List.set_cons_succ]
                  refine rg_step 25 rfl (by kernel_rfl) (by rfl) (fun K hK => ?_)
                  --RAW
                  apply wp_store_part 62
                  case ho => exact rfl
                  case hx => exact rfl
                  case hy => exact rfl
                  case hg => exact PX
                  case hle => simp
                  case hi => kernel_rfl
                  case h1 => kernel_rfl
                  intro wn gn PX
                  refine hK.out _ _ (Ext.of_grown gn fun k hk => by injection hk with e; omega) ?_
                  clear hK K; try simp only [Act.put, List.setIfInBounds_toArray, List.set_cons_zero, List.set_cons_succ]
                  refine rg_done (by kernel_rfl) ?_
                  --TAIL
                  go_wp2_with fail
                  go_meet
                  have hKK := HKK.out
                  subst hKK
                  exact ⟨p, rfl, hp, PX, below_grown rr gn rr.size hp⟩
              · go_simp
                refine hK.out _ _ ((Ext.refl _ _).alloc _) ?_
                obtain ⟨wn, p, e1, e2, PX, rr, hp⟩ := alloc_pack rr (.cells mz 62)
                rw [e1, e2]
                clear e1 e2
                clear hK K; try simp only [Act.put, List.setIfInBounds_toArray, List.set_cons_zero, List.set_cons_succ]
                refine rg_step 17 rfl (by kernel_rfl) (by rfl) (fun K hK => ?_)
                go_simp
                refine (raddr12_any _ (some ⟨b, o, none⟩) n c l 16 ((I2.below rr).more rr.size) (by omega) hnm).mono ?_
                rw [K16.out]
                rintro e wn ⟨rfl, hb⟩
                try replace PX := below_at hb PX (heap_lt PX)
                replace rr := rr.trans (hb.mono rr.size)
                refine hK.out _ _ (Ext.below_all _ hb) ?_
                clear hb
                clear hK K; try simp only [Act.put, List.setIfInBounds_toArray, List.set_cons_zero, List.set_cons_succ]
                refine rg_step 19 rfl (by kernel_rfl) (by rfl) (fun K hK => ?_)
                go_simp
                refine (raddr12_any _ (some ⟨b, o, none⟩) n c l 20 ((I2.below rr).more rr.size) (by omega) hnm).mono ?_
                rw [K20.out]
                rintro e wn ⟨rfl, hb⟩
                try replace PX := below_at hb PX (heap_lt PX)
                replace rr := rr.trans (hb.mono rr.size)
                refine hK.out _ _ (Ext.below_all _ hb) ?_
                clear hb
                clear hK K; try simp only [Act.put, List.setIfInBounds_toArray, List.set_cons_zero, List.set_cons_succ]
                refine rg_step 21 rfl (by kernel_rfl) (by rfl) (fun K hK => ?_)
                go_simp
                refine (raddr12_any _ (some ⟨b, o, none⟩) n c l 24 ((I2.below rr).more rr.size) (by omega) hnm).mono ?_
                rw [K24.out]
                rintro e wn ⟨rfl, hb⟩
                try replace PX := below_at hb PX (heap_lt PX)
                replace rr := rr.trans (hb.mono rr.size)
                refine hK.out _ _ (Ext.below_all _ hb) ?_
                clear hb
                clear hK K; try simp only [Act.put, List.setIfInBounds_toArray, List.set_cons_zero, List.set_cons_succ]
                refine rg_take (v := ?_) 23 rfl (by kernel_rfl) (by kernel_rfl) (by kernel_rfl) (fun _ _ _ h => h) (by rfl) ?_ ?_; rotate_left
                · (intro x hx; go_simp; first | done | with_reducible rfl | (rw [if_pos (by omega)]; try with_reducible rfl) | (rw [if_neg (by omega)]; try with_reducible rfl))
                try simp only [Act.put, List.setIfInBounds_toArray, List.set_cons_zero, List.set_cons_succ]
                refine rg_step 25 rfl (by kernel_rfl) (by rfl) (fun K hK => ?_)
                --RAW
                apply wp_store_part 62
                case ho => exact rfl
                case hx => exact rfl
                case hy => exact rfl
                case hg => exact PX
                case hle => simp
                case hi => kernel_rfl
                case h1 => kernel_rfl
                intro wn gn PX
                refine hK.out _ _ (Ext.of_grown gn fun k hk => by injection hk with e; omega) ?_
                clear hK K; try simp only [Act.put, List.setIfInBounds_toArray, List.set_cons_zero, List.set_cons_succ]
                refine rg_done (by kernel_rfl) ?_
                --TAIL
                go_wp2_with fail
                go_meet
                have hKK := HKK.out
                subst hKK
                exact ⟨p, rfl, hp, PX, below_grown rr gn rr.size hp⟩
            · go_simp
              refine hK.out _ _ ((Ext.refl _ _).alloc _) ?_
              obtain ⟨wn, p, e1, e2, PX, rr, hp⟩ := alloc_pack rr (.cells mz 62)
              rw [e1, e2]
              clear e1 e2
              clear hK K; try simp only [Act.put, List.setIfInBounds_toArray, List.set_cons_zero, List.set_cons_succ]
              refine rg_step 15 rfl (by kernel_rfl) (by rfl) (fun K hK => ?_)
              go_simp
              refine (raddr12_any _ (some ⟨b, o, none⟩) n c l 12 ((I2.below rr).more rr.size) (by omega) hnm).mono ?_
              rw [K12.out]
              rintro e wn ⟨rfl, hb⟩
              try replace PX := below_at hb PX (heap_lt PX)
              replace rr := rr.trans (hb.mono rr.size)
              refine hK.out _ _ (Ext.below_all _ hb) ?_
              clear hb
              clear hK K; try simp only [Act.put, List.setIfInBounds_toArray, List.set_cons_zero, List.set_cons_succ]
              refine rg_step 17 rfl (by kernel_rfl) (by rfl) (fun K hK => ?_)
              go_simp
              refine (raddr12_any _ (some ⟨b, o, none⟩) n c l 16 ((I2.below rr).more rr.size) (by omega) hnm).mono ?_
              rw [K16.out]
              rintro e wn ⟨rfl, hb⟩
              try replace PX := below_at hb PX (heap_lt PX)
              replace rr := rr.trans (hb.mono rr.size)
              refine hK.out _ _ (Ext.below_all _ hb) ?_
              clear hb
              clear hK K; try simp only [Act.put, List.setIfInBounds_toArray, List.set_cons_zero, List.set_cons_succ]
              refine rg_step 19 rfl (by kernel_rfl) (by rfl) (fun K hK => ?_)
              go_simp
              refine (raddr12_any _ (some ⟨b, o, none⟩) n c l 20 ((I2.below rr).more rr.size) (by omega) hnm).mono ?_
              rw [K20.out]
              rintro e wn ⟨rfl, hb⟩
              try replace PX := below_at hb PX (heap_lt PX)
              replace rr := rr.trans (hb.mono rr.size)
              refine hK.out _ _ (Ext.below_all _ hb) ?_
              clear hb
              clear hK K; try simp only [Act.put, List.setIfInBounds_toArray, List.set_cons_zero, List.set_cons_succ]
              refine rg_step 21 rfl (by kernel_rfl) (by rfl) (fun K hK => ?_)
              go_simp
              refine (raddr12_any _ (some ⟨b, o, none⟩) n c l 24 ((I2.below rr).more rr.size) (by omega) hnm).mono ?_
              rw [K24.out]
              rintro e wn ⟨rfl, hb⟩
              try replace PX := below_at hb PX (heap_lt PX)
              replace rr := rr.trans (hb.mono rr.size)
              refine hK.out _ _ (Ext.below_all _ hb) ?_
              clear hb
              clear hK K; try simp only [Act.put, List.setIfInBounds_toArray, List.set_cons_zero, List.set_cons_succ]
              refine rg_take (v := ?_) 23 rfl (by kernel_rfl) (by kernel_rfl) (by kernel_rfl) (fun _ _ _ h => h) (by rfl) ?_ ?_; rotate_left
              · (intro x hx; go_simp; first | done | with_reducible rfl | (rw [if_pos (by omega)]; try with_reducible rfl) | (rw [if_neg (by omega)]; try with_reducible rfl))
              try simp only [Act.put, List.setIfInBounds_toArray, List.set_cons_zero, List.set_cons_succ]
              refine rg_step 25 rfl (by kernel_rfl) (by rfl) (fun K hK => ?_)
              --RAW
              apply wp_store_part 62
              case ho => exact rfl
              case hx => exact rfl
              case hy => exact rfl
              case hg => exact PX
              case hle => simp
              case hi => kernel_rfl
              case h1 => kernel_rfl
              intro wn gn PX
              refine hK.out _ _ (Ext.of_grown gn fun k hk => by injection hk with e; omega) ?_
              clear hK K; try simp only [Act.put, List.setIfInBounds_toArray, List.set_cons_zero, List.set_cons_succ]
              refine rg_done (by kernel_rfl) ?_
              --TAIL
              go_wp2_with fail
              go_meet
              have hKK := HKK.out
              subst hKK
              exact ⟨p, rfl, hp, PX, below_grown rr gn rr.size hp⟩
          · go_simp
            refine hK.out _ _ ((Ext.refl _ _).alloc _) ?_
            obtain ⟨wn, p, e1, e2, PX, rr, hp⟩ := alloc_pack rr (.cells mz 62)
            rw [e1, e2]
            clear e1 e2
            clear hK K; try simp only [Act.put, List.setIfInBounds_toArray, List.set_cons_zero, List.set_cons_succ]
            refine rg_step 13 rfl (by kernel_rfl) (by rfl) (fun K hK => ?_)
            go_simp
            refine (at16b _ (some ⟨b, o, none⟩) n c l 10 ((I2.below rr).more rr.size) (by omega) hnm).mono ?_
            rw [K10.out]
            rintro e wn ⟨rfl, hb⟩
            try replace PX := below_at hb PX (heap_lt PX)
            replace rr := rr.trans (hb.mono rr.size)
            refine hK.out _ _ (Ext.below_all _ hb) ?_
            clear hb
            clear hK K; try simp only [Act.put, List.setIfInBounds_toArray, List.set_cons_zero, List.set_cons_succ]
            refine rg_step 15 rfl (by kernel_rfl) (by rfl) (fun K hK => ?_)
            go_simp
            refine (raddr12_any _ (some ⟨b, o, none⟩) n c l 12 ((I2.below rr).more rr.size) (by omega) hnm).mono ?_
            rw [K12.out]
            rintro e wn ⟨rfl, hb⟩
            try replace PX := below_at hb PX (heap_lt PX)
            replace rr := rr.trans (hb.mono rr.size)
            refine hK.out _ _ (Ext.below_all _ hb) ?_
            clear hb
            clear hK K; try simp only [Act.put, List.setIfInBounds_toArray, List.set_cons_zero, List.set_cons_succ]
            refine rg_step 17 rfl (by kernel_rfl) (by rfl) (fun K hK => ?_)
            go_simp
            refine (raddr12_any _ (some ⟨b, o, none⟩) n c l 16 ((I2.below rr).more rr.size) (by omega) hnm).mono ?_
            rw [K16.out]
            rintro e wn ⟨rfl, hb⟩
            try replace PX := below_at hb PX (heap_lt PX)
            replace rr := rr.trans (hb.mono rr.size)
            refine hK.out _ _ (Ext.below_all _ hb) ?_
            clear hb
            clear hK K; try simp only [Act.put, List.setIfInBounds_toArray, List.set_cons_zero, List.set_cons_succ]
            refine rg_step 19 rfl (by kernel_rfl) (by rfl) (fun K hK => ?_)
            go_simp
            refine (raddr12_any _ (some ⟨b, o, none⟩) n c l 20 ((I2.below rr).more rr.size) (by omega) hnm).mono ?_
            rw [K20.out]
            rintro e wn ⟨rfl, hb⟩
            try replace PX := below_at hb PX (heap_lt PX)
            replace rr := rr.trans (hb.mono rr.size)
            refine hK.out _ _ (Ext.below_all _ hb) ?_
            clear hb
            clear hK K; try simp only [Act.put, List.setIfInBounds_toArray, List.set_cons_zero, List.set_cons_succ]
            refine rg_step 21 rfl (by kernel_rfl) (by rfl) (fun K hK => ?_)
            go_simp
            refine (raddr12_any _ (some ⟨b, o, none⟩) n c l 24 ((I2.below rr).more rr.size) (by omega) hnm).mono ?_
            rw [K24.out]
            rintro e wn ⟨rfl, hb⟩
            try replace PX := below_at hb PX (heap_lt PX)
            replace rr := rr.trans (hb.mono rr.size)
            refine hK.out _ _ (Ext.below_all _ hb) ?_
            clear hb
            clear hK K; try simp only [Act.put, List.setIfInBounds_toArray, List.set_cons_zero, List.set_cons_succ]
            refine rg_take (v := ?_) 23 rfl (by kernel_rfl) (by kernel_rfl) (by kernel_rfl) (fun _ _ _ h => h) (by rfl) ?_ ?_; rotate_left
            · (intro x hx; go_simp; first | done | with_reducible rfl | (rw [if_pos (by omega)]; try with_reducible rfl) | (rw [if_neg (by omega)]; try with_reducible rfl))
            try simp only [Act.put, List.setIfInBounds_toArray, List.set_cons_zero, List.set_cons_succ]
            refine rg_step 25 rfl (by kernel_rfl) (by rfl) (fun K hK => ?_)
            --RAW
            apply wp_store_part 62
            case ho => exact rfl
            case hx => exact rfl
            case hy => exact rfl
            case hg => exact PX
            case hle => simp
            case hi => kernel_rfl
            case h1 => kernel_rfl
            intro wn gn PX
            refine hK.out _ _ (Ext.of_grown gn fun k hk => by injection hk with e; omega) ?_
            clear hK K; try simp only [Act.put, List.setIfInBounds_toArray, List.set_cons_zero, List.set_cons_succ]
            refine rg_done (by kernel_rfl) ?_
            --TAIL
            go_wp2_with fail
            go_meet
            have hKK := HKK.out
            subst hKK
            exact ⟨p, rfl, hp, PX, below_grown rr gn rr.size hp⟩
        · go_simp
          refine hK.out _ _ ((Ext.refl _ _).alloc _) ?_
          obtain ⟨wn, p, e1, e2, PX, rr, hp⟩ := alloc_pack rr (.cells mz 62)
          rw [e1, e2]
          clear e1 e2
          clear hK K; try simp only [Act.put, List.setIfInBounds_toArray, List.set_cons_zero, List.set_cons_succ]
          refine rg_step 11 rfl (by kernel_rfl) (by rfl) (fun K hK => ?_)
          go_simp
          refine (at16b _ (some ⟨b, o, none⟩) n c l 8 ((I2.below rr).more rr.size) (by omega) hnm).mono ?_
          rw [K8.out]
          rintro e wn ⟨rfl, hb⟩
          try replace PX := below_at hb PX (heap_lt PX)
          replace rr := rr.trans (hb.mono rr.size)
          refine hK.out _ _ (Ext.below_all _ hb) ?_
          clear hb
          clear hK K; try simp only [Act.put, List.setIfInBounds_toArray, List.set_cons_zero, List.set_cons_succ]
          refine rg_step 13 rfl (by kernel_rfl) (by rfl) (fun K hK => ?_)
          go_simp
          refine (at16b _ (some ⟨b, o, none⟩) n c l 10 ((I2.below rr).more rr.size) (by omega) hnm).mono ?_
          rw [K10.out]
          rintro e wn ⟨rfl, hb⟩
          try replace PX := below_at hb PX (heap_lt PX)
          replace rr := rr.trans (hb.mono rr.size)
          refine hK.out _ _ (Ext.below_all _ hb) ?_
          clear hb
          clear hK K; try simp only [Act.put, List.setIfInBounds_toArray, List.set_cons_zero, List.set_cons_succ]
          refine rg_step 15 rfl (by kernel_rfl) (by rfl) (fun K hK => ?_)
          go_simp
          refine (raddr12_any _ (some ⟨b, o, none⟩) n c l 12 ((I2.below rr).more rr.size) (by omega) hnm).mono ?_
          rw [K12.out]
          rintro e wn ⟨rfl, hb⟩
          try replace PX := below_at hb PX (heap_lt PX)
          replace rr := rr.trans (hb.mono rr.size)
          refine hK.out _ _ (Ext.below_all _ hb) ?_
          clear hb
          clear hK K; try simp only [Act.put, List.setIfInBounds_toArray, List.set_cons_zero, List.set_cons_succ]
          refine rg_step 17 rfl (by kernel_rfl) (by rfl) (fun K hK => ?_)
          go_simp
          refine (raddr12_any _ (some ⟨b, o, none⟩) n c l 16 ((I2.below rr).more rr.size) (by omega) hnm).mono ?_
          rw [K16.out]
          rintro e wn ⟨rfl, hb⟩
          try replace PX := below_at hb PX (heap_lt PX)
          replace rr := rr.trans (hb.mono rr.size)
          refine hK.out _ _ (Ext.below_all _ hb) ?_
          clear hb
          clear hK K; try simp only [Act.put, List.setIfInBounds_toArray, List.set_cons_zero, List.set_cons_succ]
          refine rg_step 19 rfl (by kernel_rfl) (by rfl) (fun K hK => ?_)
          go_simp
          refine (raddr12_any _ (some ⟨b, o, none⟩) n c l 20 ((I2.below rr).more rr.size) (by omega) hnm).mono ?_
          rw [K20.out]
          rintro e wn ⟨rfl, hb⟩
          try replace PX := below_at hb PX (heap_lt PX)
          replace rr := rr.trans (hb.mono rr.size)
          refine hK.out _ _ (Ext.below_all _ hb) ?_
          clear hb
          clear hK K; try simp only [Act.put, List.setIfInBounds_toArray, List.set_cons_zero, List.set_cons_succ]
          refine rg_step 21 rfl (by kernel_rfl) (by rfl) (fun K hK => ?_)
          go_simp
          refine (raddr12_any _ (some ⟨b, o, none⟩) n c l 24 ((I2.below rr).more rr.size) (by omega) hnm).mono ?_
          rw [K24.out]
          rintro e wn ⟨rfl, hb⟩
          try replace PX := below_at hb PX (heap_lt PX)
          replace rr := rr.trans (hb.mono rr.size)
          refine hK.out _ _ (Ext.below_all _ hb) ?_
          clear hb
          clear hK K; try simp only [Act.put, List.setIfInBounds_toArray, List.set_cons_zero, List.set_cons_succ]
          refine rg_take (v := ?_) 23 rfl (by kernel_rfl) (by kernel_rfl) (by kernel_rfl) (fun _ _ _ h => h) (by rfl) ?_ ?_; rotate_left
          · (intro x hx; go_simp; first | done | with_reducible rfl | (rw [if_pos (by omega)]; try with_reducible rfl) | (rw [if_neg (by omega)]; try with_reducible rfl))
          try simp only [Act.put, List.setIfInBounds_toArray, List.set_cons_zero, List.set_cons_succ]
          refine rg_step 25 rfl (by kernel_rfl) (by rfl) (fun K hK => ?_)
          --RAW
          apply wp_store_part 62
          case ho => exact rfl
          case hx => exact rfl
          case hy => exact rfl
          case hg => exact PX
          case hle => simp
          case hi => kernel_rfl
          case h1 => kernel_rfl
          intro wn gn PX
          refine hK.out _ _ (Ext.of_grown gn fun k hk => by injection hk with e; omega) ?_
          clear hK K; try simp only [Act.put, List.setIfInBounds_toArray, List.set_cons_zero, List.set_cons_succ]
          refine rg_done (by kernel_rfl) ?_
          --TAIL
          go_wp2_with fail
          go_meet
          have hKK := HKK.out
          subst hKK
          exact ⟨p, rfl, hp, PX, below_grown rr gn rr.size hp⟩
      · go_simp
        refine hK.out _ _ ((Ext.refl _ _).alloc _) ?_
        obtain ⟨wn, p, e1, e2, PX, rr, hp⟩ := alloc_pack rr (.cells mz 62)
        rw [e1, e2]
        clear e1 e2
        clear hK K; try simp only [Act.put, List.setIfInBounds_toArray, List.set_cons_zero, List.set_cons_succ]
        refine rg_step 9 rfl (by kernel_rfl) (by rfl) (fun K hK => ?_)
        go_simp
        refine (at32b _ (some ⟨b, o, none⟩) n c l 4 ((I2.below rr).more rr.size) (by omega) hnm).mono ?_
        rw [K4.out]
        rintro e wn ⟨rfl, hb⟩
        try replace PX := below_at hb PX (heap_lt PX)
        replace rr := rr.trans (hb.mono rr.size)
        refine hK.out _ _ (Ext.below_all _ hb) ?_
        clear hb
        clear hK K; try simp only [Act.put, List.setIfInBounds_toArray, List.set_cons_zero, List.set_cons_succ]
        refine rg_step 11 rfl (by kernel_rfl) (by rfl) (fun K hK => ?_)
        go_simp
        refine (at16b _ (some ⟨b, o, none⟩) n c l 8 ((I2.below rr).more rr.size) (by omega) hnm).mono ?_
        rw [K8.out]
        rintro e wn ⟨rfl, hb⟩
        try replace PX := below_at hb PX (heap_lt PX)
        replace rr := rr.trans (hb.mono rr.size)
        refine hK.out _ _ (Ext.below_all _ hb) ?_
        clear hb
        clear hK K; try simp only [Act.put, List.setIfInBounds_toArray, List.set_cons_zero, List.set_cons_succ]
        refine rg_step 13 rfl (by kernel_rfl) (by rfl) (fun K hK => ?_)
        go_simp
        refine (at16b _ (some ⟨b, o, none⟩) n c l 10 ((I2.below rr).more rr.size) (by omega) hnm).mono ?_
        rw [K10.out]
        rintro e wn ⟨rfl, hb⟩
        try replace PX := below_at hb PX (heap_lt PX)
        replace rr := rr.trans (hb.mono rr.size)
        refine hK.out _ _ (Ext.below_all _ hb) ?_
        clear hb
        clear hK K; try simp only [Act.put, List.setIfInBounds_toArray, List.set_cons_zero, List.set_cons_succ]
        refine rg_step 15 rfl (by kernel_rfl) (by rfl) (fun K hK => ?_)
        go_simp
        refine (raddr12_any _ (some ⟨b, o, none⟩) n c l 12 ((I2.below rr).more rr.size) (by omega) hnm).mono ?_
        rw [K12.out]
        rintro e wn ⟨rfl, hb⟩
        try replace PX := below_at hb PX (heap_lt PX)
        replace rr := rr.trans (hb.mono rr.size)
        refine hK.out _ _ (Ext.below_all _ hb) ?_
        clear hb
        clear hK K; try simp only [Act.put, List.setIfInBounds_toArray, List.set_cons_zero, List.set_cons_succ]
        refine rg_step 17 rfl (by kernel_rfl) (by rfl) (fun K hK => ?_)
        go_simp
        refine (raddr12_any _ (some ⟨b, o, none⟩) n c l 16 ((I2.below rr).more rr.size) (by omega) hnm).mono ?_
        rw [K16.out]
        rintro e wn ⟨rfl, hb⟩
        try replace PX := below_at hb PX (heap_lt PX)
        replace rr := rr.trans (hb.mono rr.size)
        refine hK.out _ _ (Ext.below_all _ hb) ?_
        clear hb
        clear hK K; try simp only [Act.put, List.setIfInBounds_toArray, List.set_cons_zero, List.set_cons_succ]
        refine rg_step 19 rfl (by kernel_rfl) (by rfl) (fun K hK => ?_)
        go_simp
        refine (raddr12_any _ (some ⟨b, o, none⟩) n c l 20 ((I2.below rr).more rr.size) (by omega) hnm).mono ?_
        rw [K20.out]
        rintro e wn ⟨rfl, hb⟩
        try replace PX := below_at hb PX (heap_lt PX)
        replace rr := rr.trans (hb.mono rr.size)
        refine hK.out _ _ (Ext.below_all _ hb) ?_
        clear hb
        clear hK K; try simp only [Act.put, List.setIfInBounds_toArray, List.set_cons_zero, List.set_cons_succ]
        refine rg_step 21 rfl (by kernel_rfl) (by rfl) (fun K hK => ?_)
        go_simp
        refine (raddr12_any _ (some ⟨b, o, none⟩) n c l 24 ((I2.below rr).more rr.size) (by omega) hnm).mono ?_
        rw [K24.out]
        rintro e wn ⟨rfl, hb⟩
        try replace PX := below_at hb PX (heap_lt PX)
        replace rr := rr.trans (hb.mono rr.size)
        refine hK.out _ _ (Ext.below_all _ hb) ?_
        clear hb
        clear hK K; try simp only [Act.put, List.setIfInBounds_toArray, List.set_cons_zero, List.set_cons_succ]
        refine rg_take (v := ?_) 23 rfl (by kernel_rfl) (by kernel_rfl) (by kernel_rfl) (fun _ _ _ h => h) (by rfl) ?_ ?_; rotate_left
        · (intro x hx; go_simp; first | done | with_reducible rfl | (rw [if_pos (by omega)]; try with_reducible rfl) | (rw [if_neg (by omega)]; try with_reducible rfl))
        try simp only [Act.put, List.setIfInBounds_toArray, List.set_cons_zero, List.set_cons_succ]
        refine rg_step 25 rfl (by kernel_rfl) (by rfl) (fun K hK => ?_)
        --RAW
        apply wp_store_part 62
        case ho => exact rfl
        case hx => exact rfl
        case hy => exact rfl
        case hg => exact PX
        case hle => simp
        case hi => kernel_rfl
        case h1 => kernel_rfl
        intro wn gn PX
        refine hK.out _ _ (Ext.of_grown gn fun k hk => by injection hk with e; omega) ?_
        clear hK K; try simp only [Act.put, List.setIfInBounds_toArray, List.set_cons_zero, List.set_cons_succ]
        refine rg_done (by kernel_rfl) ?_
        --TAIL
        go_wp2_with fail
        go_meet
        have hKK := HKK.out
        subst hKK
        exact ⟨p, rfl, hp, PX, below_grown rr gn rr.size hp⟩
    case rest =>
      obtain ⟨p, rfl, hp, PX, rr⟩ := hcut
      have PX0 : wc.heap[p]? = some (.cells (msC ⟨(KK : Nat), (k3n : Nat), (k4 : Nat), (k8 : Nat), (k10 : Nat), a12, a16, a20, a24, macK [ma, mb, mc, md, me, mf] 0⟩ A3 n3 c3) 62 (0, 0)) := PX
      clear PX
      go_wp2_with fail
      go_loopw [7] (fun i wr => ∃ j : Nat, j ≤ 6 ∧ i = .int .i64 j ∧ wr.heap[p]? = some (.cells (msC ⟨(KK : Nat), (k3n : Nat), (k4 : Nat), (k8 : Nat), (k10 : Nat), a12, a16, a20, a24, macK [ma, mb, mc, md, me, mf] j⟩ A3 n3 c3) 62 (0, 0)) ∧ Below w2.heap.size w2 wr) (fun i _ => 6 - (intOf i).toNat)
      case atStart => exact ⟨0, Nat.zero_le _, rfl, PX0, rr⟩
      case round =>
        obtain ⟨j, hj, rfl, hP, hq⟩ := hrel
        by_cases hlt : j < 6
        · obtain ⟨y, hy⟩ : ∃ y, [ma, mb, mc, md, me, mf][j]? = some y := ⟨_, List.getElem?_eq_getElem (by simpa using hlt)⟩
          have hc := HC.out j hlt y hy wr ((I2.below hq).more hq.size)
          have hc' : wr.cell? ⟨b, o + (28 + j), none⟩ = some (.int .u8 (y.toNat : Int)) := by rw [← Nat.add_assoc]; exact hc
          have e28 : (28 + (j : Int)).toNat = 28 + j := by omega
          have HY := Lib.hid hy
          have hPs := Lib.hid hP
          clear hy hP
          go_wp2_with ((with_reducible apply at_store_one 5 (v := .int .u8 (y.toNat : Int))); (case hx => exact rfl); (case hy => exact rfl); (case hg => exact hPs.out); (case hle => simp; omega); (case hv => rfl); (case hi => kernel_rfl); (case h1 => rfl); (intro w11 g11 P11; replace P11 := Lib.hid P11))
          go_roundw
          case rel =>
            have e := P11.out
            rw [splice_mac1 _ _ _ _ _ j y rfl HY.out hlt] at e
            exact ⟨j + 1, by omega, by go_num, e, below_grown hq g11 hq.size hp⟩
          case measure => simp [intOf]; omega
        · obtain rfl : j = 6 := by omega
          have X3 := below_at hq X2.out (heap_lt X2.out)
          have hPs := Lib.hid hP
          clear hP
          go_wp2_with ((with_reducible apply at_load_row 62); (case hx => exact rfl); (case hg => exact hPs.out); (case hu => exact Try.underlying62); (case hd => rfl); (case hi => kernel_rfl))
          refine (rtype_any _ _ A3 n3 c3 l3 ((os2.below hq).more hq.size)).mono ?_
          rw [HL3.out, HT.out]
          rintro e w29 ⟨rfl, hb29⟩
          have q29 := hq.trans (hb29.mono hq.size)
          have X29 := below_at hb29 X3 (heap_lt X3)
          have P29 := below_at hb29 hPs.out (heap_lt hPs.out)
          have hr := HR.out
          clear hb29 X3
          by_cases hty : ty = 0
          · subst hty
            rw [if_pos rfl] at hr
            have HR' := Lib.hid hr
            clear hr HR
            go_wp2_with ((with_reducible apply at_store_part 62); (case hx => exact rfl); (case hy => exact rfl); (case hg => exact X29); (case hle => simp); (case hi => kernel_rfl); (case h1 => kernel_rfl); (intro w30 g30 X30; replace X30 := Lib.hid X30))
            have X30' : w30.heap[w.heap.size]? = some (.cells mz 62 (0, 0)) := X30.out
            refine bodyPost_cell_tmp w.heap.size _ _ _ rfl rfl X30' Try.underlying62 rfl (by kernel_rfl) rfl ?_
            have qq := below_grown (q2.trans (q29.mono q2.size)) g30 (q2.trans (q29.mono q2.size)).size (Nat.le_refl _)
            have := MsPost.none_ (k := 4) qq
            rw [msV, msC_zero, HR'.out] at this
            exact this
          · have hty' : (ty == 0) = false := by rw [beq_eq_false_iff_ne]; exact hty
            rw [if_neg hty] at hr
            have HR' := Lib.hid hr
            clear hr HR hty
            go_wp2_with (first | ((with_reducible apply at_load_row 62); (case hx => exact rfl); (case hg => exact P29); (case hu => exact Try.underlying62); (case hd => rfl); (case hi => kernel_rfl)) | ((with_reducible apply at_store_part 62); (case hx => exact rfl); (case hy => exact rfl); (case hg => exact X29); (case hle => simp); (case hi => kernel_rfl); (case h1 => kernel_rfl); (intro w30 g30 X30; replace X30 := Lib.hid X30)))
            have X30' : w30.heap[w.heap.size]? = some (.cells (msC ⟨(KK : Nat), (k3n : Nat), (k4 : Nat), (k8 : Nat), (k10 : Nat), a12, a16, a20, a24, ⟨ma, mb, mc, md, me, mf⟩⟩ A3 n3 c3) 62 (0, 0)) := X30.out
            refine bodyPost_cell_tmp w.heap.size _ _ _ rfl rfl X30' Try.underlying62 rfl (by kernel_rfl) rfl ?_
            have he := HR'.out
            subst he
            exact ⟨A3, n3, c3, l3, rfl, ((ho3.below q29).grown g30 (by simp)).os, HL3.out, below_grown (q2.trans (q29.mono q2.size)) g30 (q2.trans (q29.mono q2.size)).size (Nat.le_refl _)⟩
end Go.Proofs.Ytidohmcneoldcaa
