/-
  Contract of dhcp.Get: the message read.
-/
import Derived.Test.YtidohmcneoldcaaDh4
namespace Go.Proofs.Ytidohmcneoldcaa
open Go.RowKit

/-- How it stands while a message is read: v is the world behind the options; the result's block x, the reader's g, the message's p. -/
structure GS (w0 v w : World) (x g p : Nat) (hd : Hd) (A : Option Addr) (n c : Nat) (L : List UInt8) (i : Nat) : Prop where
  q : Below w0.heap.size w0 w
  X : w.heap[x]? = some (.cells mz 56 (0, 0))
  P : w.heap[p]? = some (.cells (msC hd A n c) 56 (0, 0))
  R : Rd w g (L.drop i) false
  O : Below v.heap.size v w
  hx : w0.heap.size ≤ x
  xB : x < v.heap.size
  Bg : v.heap.size ≤ g
  gp : g < p
section
variable {w0 v w w' : World} {x g p : Nat} {hd : Hd} {A : Option Addr} {n c : Nat} {L : List UInt8} {i : Nat}
theorem GS.read (s : GS w0 v w x g p hd A n c L i)
    {k : Nat} {L' : List UInt8} {sh : Bool} (hr : Rd w' g L' sh) (hL : L' = L.drop k) (hs : sh = false) (hg : w.grownBy w' (some g)) : GS w0 v w' x g p hd A n c L k :=
  have hb : Below v.heap.size v w' := below_grown s.O hg s.O.size s.Bg
  have hb' : Below v.heap.size w w' := below_grown (Below.refl _ w) hg s.O.size s.Bg
  ⟨below_grown s.q hg s.q.size (by have := s.hx; have := s.xB; have := s.Bg; omega), below_at hb' s.X s.xB, grown_at hg s.P (by have := s.gp; omega), by rw [← hL, ← hs]; exact hr, hb, s.hx, s.xB, s.Bg, s.gp⟩
theorem GS.put {hd' : Hd} (s : GS w0 v w x g p hd A n c L i)
    (hg : w.grownBy w' (some p)) (hP : w'.heap[p]? = some (.cells (msC hd' A n c) 56 (0, 0))) : GS w0 v w' x g p hd' A n c L i :=
  have h1 : v.heap.size ≤ p := by have := s.Bg; have := s.gp; omega
  have hb : Below v.heap.size v w' := below_grown s.O hg s.O.size h1
  have hb' : Below v.heap.size w w' := below_grown (Below.refl _ w) hg s.O.size h1
  ⟨below_grown s.q hg s.q.size (by have := s.hx; have := s.xB; have := s.Bg; have := s.gp; omega), below_at hb' s.X s.xB, hP, s.R.grown hg s.gp, hb, s.hx, s.xB, s.Bg, s.gp⟩
theorem GS.below (s : GS w0 v w x g p hd A n c L i)
    (hb : Below w.heap.size w w') : GS w0 v w' x g p hd A n c L i :=
  have hp := heap_lt s.P
  ⟨s.q.trans (hb.mono s.q.size), below_at hb s.X (heap_lt s.X), below_at hb s.P hp, s.R.below hb (by have := s.gp; omega), s.O.trans (hb.mono s.O.size), s.hx, s.xB, s.Bg, s.gp⟩
theorem GS.drew (s : GS w0 v w x g p hd A n c L i) : GS w0 v w.drew x g p hd A n c L i :=
  ⟨s.q.drew, s.X, s.P, s.R, s.O.drew, s.hx, s.xB, s.Bg, s.gp⟩
end

theorem msC_op (k : Int) (A : Option Addr) (n c : Nat) : #[.int .i64 k, .int .i64 0, .int .u32 0, .int .i64 0, .int .i64 0, .int .u8 0, .int .u8 0, .int .u8 0, .int .u8 0, .int .u8 0, .int .u8 0, .int .u8 0, .int .u8 0,
  .int .u8 0, .int .u8 0, .int .u8 0, .int .u8 0, .int .u8 0, .int .u8 0, .int .u8 0, .int .u8 0, .int .u8 0, .int .u8 0, .int .u8 0, .int .u8 0, .int .u8 0, .int .u8 0, .slice A n c] = msC ⟨k, 0, 0, 0, 0, ad0, ad0, ad0, ad0, mac0⟩ A n c := by
  simp [ad0, mac0]
theorem splice_ms (hd : Hd) (A : Option Addr) (n c : Nat) (l : List UInt8) (h : l.length = 6) : splice8 (msC hd A n c) 21 l = msC ⟨hd.op, hd.hops, hd.xid, hd.secs, hd.flags, hd.cl, hd.yo, hd.se, hd.re, macOf l⟩ A n c := by
  match l, h with
  | [a, b, c', d, e, f], _ => simp [splice8, bv, macOf]

set_option maxRecDepth 100000 in
set_option maxHeartbeats 4000000 in
theorem dget_ok (w : World) (b o n c : Nat) (l : List UInt8) (h : BS w w.heap.size (some ⟨b, o, none⟩) n c l) (hn : 240 ≤ n) (hmx : n ≤ 1099511627776) (hf : goodM l) (os : List Ob) (hg : getO (l.drop 240) = some os) :
    Calls Try.prog 25 #[.slice (some ⟨b, o, none⟩) n c] w (MsPost w (getM l)) := by
  have e1 : getM l = if typeO os = 0 then ((Hd.zero, []), 4) else ((hdOf l, os), 0) := by rw [getM, if_neg (by have := h.1; omega), if_pos hf, hg]
  rw [e1]
  have HF := Lib.hid (show decide (goodM l) = true from decide_eq_true hf)
  have HG := Lib.hid hg
  have hsz := getO_size _ _ hg
  have b0 : Below w.heap.size w (w.alloc (.cells mz 56)) := (Below.refl _ w).alloc (Nat.le_refl _) _
  have h1 := (h.below b0).more b0.size
  have hnc := h.2.1
  have hnl := Lib.hid h.1
  have hlm : l.length ≤ 1099511627776 := by have := h.1; omega
  have hl240 : 240 ≤ l.length := by have := h.1; omega
  have hne := getO_some_ne l os hg
  have hc240 : ¬ c = 240 := by have := h.1; omega
  have hd := h.drop (k := 240) (by omega)
  rw [if_neg hc240] at hd
  have hnm : n ≤ 9223372036854775807 := by omega
  have hcm : c ≤ 9223372036854775807 := by have h2 := h.2.2.1; unfold maxLen at h2; omega
  have hB : ∀ o ∈ os, o.2.length ≤ 1099511627776 := fun o ho => by have := hsz.2 o ho; simp at this; omega
  have HB := Lib.hid hB
  have T0 := Lib.hid (rd_at l 0 1 (by omega))
  have T1 := Lib.hid (rd_at l 1 2 (by omega))
  have T3 := Lib.hid (rd_at l 3 1 (by omega))
  have T4 := Lib.hid (rd_at l 4 4 (by omega))
  have T8 := Lib.hid (rd_at l 8 2 (by omega))
  have T10 := Lib.hid (rd_at l 10 2 (by omega))
  have T12 := Lib.hid (rd_at l 12 4 (by omega))
  have T16 := Lib.hid (rd_at l 16 4 (by omega))
  have T20 := Lib.hid (rd_at l 20 4 (by omega))
  have T24 := Lib.hid (rd_at l 24 4 (by omega))
  have T28 := Lib.hid (rd_at l 28 6 (by omega))
  have be4 : ∀ i, i + 4 ≤ l.length → 0 ≤ ((beN ((l.drop i).take 4) : Nat) : Int) ∧ ((beN ((l.drop i).take 4) : Nat) : Int) < 4294967296 := fun i hi => by
    have h1 := beN_lt ((l.drop i).take 4)
    rw [show ((l.drop i).take 4).length = 4 by simp; omega] at h1
    omega
  have B12 := Lib.hid (be4 12 (by omega))
  have B16 := Lib.hid (be4 16 (by omega))
  have B20 := Lib.hid (be4 20 (by omega))
  have B24 := Lib.hid (be4 24 (by omega))
  have hdl : ∀ i, (l.drop i).length ≤ 1099511627776 := fun i => by rw [List.length_drop]; omega
  have HDL := Lib.hid hdl
  have HM6 := Lib.hid (show ((l.drop 28).take 6).length = 6 by simp; omega)
  rw [hdOf]
  generalize hk0 : beN ((l.drop 0).take 1) = k0
  generalize hk3 : beN ((l.drop 3).take 1) = k3
  generalize hk4 : beN ((l.drop 4).take 4) = k4
  generalize hk8 : beN ((l.drop 8).take 2) = k8
  generalize hk10 : beN ((l.drop 10).take 2) = k10
  generalize hk12 : beN ((l.drop 12).take 4) = k12 at B12 ⊢
  generalize hk16 : beN ((l.drop 16).take 4) = k16 at B16 ⊢
  generalize hk20 : beN ((l.drop 20).take 4) = k20 at B20 ⊢
  generalize hk24 : beN ((l.drop 24).take 4) = k24 at B24 ⊢
  generalize hk28 : macOf ((l.drop 28).take 6) = m28
  have K0 := Lib.hid hk0
  have K3 := Lib.hid hk3
  have K4 := Lib.hid hk4
  have K8 := Lib.hid hk8
  have K10 := Lib.hid hk10
  have K12 := Lib.hid hk12
  have K16 := Lib.hid hk16
  have K20 := Lib.hid hk20
  have K24 := Lib.hid hk24
  have K28 := Lib.hid hk28
  clear e1 hf hg hsz hB be4 hdl hk0 hk3 hk4 hk8 hk10 hk12 hk16 hk20 hk24 hk28
  obtain ⟨ty, hty⟩ : ∃ ty, typeO os = ty := ⟨_, rfl⟩
  rw [hty]
  have HT := Lib.hid hty
  clear hty
  generalize hr : (if ty = 0 then ((Hd.zero, []), (4 : Int)) else ((⟨(k0 : Nat), (k3 : Nat), (k4 : Nat), (k8 : Nat), (k10 : Nat), of4 k12, of4 k16, of4 k20, of4 k24, m28⟩, os), 0)) = r
  have HR := Lib.hid hr
  clear hr
  go_enter Try.func25, Try.ntmps25
  go_wp2_with fail
  refine (good_any _ _ n c l h1 hn).mono ?_
  rw [HF.out]
  rintro e w1 ⟨rfl, hb1⟩
  have X1 := Lib.hid (show w1.heap[w.heap.size]? = some (.cells mz 56 (0, 0)) from below_at hb1 (heap_alloc_at rfl) (by simp))
  have q1 : Below w.heap.size w w1 := b0.trans (hb1.mono (by simp))
  clear h1 hb1 b0
  go_wp2_with fail
  refine (oget_u w1 _ (n - 240) (c - 240) (l.drop 240) ((hd.below q1).more q1.size) (HDL.out 240) os 0 true (.inl ⟨HG.out, rfl, rfl⟩)).mono ?_
  rintro e w2 ⟨A3, n3, c3, l3, rfl, ho3, hl3, hb2⟩
  have X2 := Lib.hid (below_at hb2 X1.out (heap_lt X1.out))
  have q2 := q1.trans (hb2.mono q1.size)
  have HL3 := Lib.hid hl3
  have zA := hb2.size
  have zx := heap_lt X1.out
  clear hb2 X1 hl3
  go_wp2_with fail
  refine (read_any w2 _ n c l ((h.below q2).more q2.size) hlm).mono ?_
  rintro e w3 ⟨g, rfl, hg, hr3, hb3⟩
  have X3 := below_at hb3 X2.out (heap_lt X2.out)
  have xB := heap_lt X2.out
  have q3 := q2.trans (hb3.mono q2.size)
  have o3 : Below w2.heap.size w2 w3 := hb3
  have gl := hr3.lt
  clear X2 hb3
  go_wp2_with fail
  refine (ru8_any w3 g l false hr3 hlm).mono ?_
  rintro e w4 ⟨rfl, hr4, hg4⟩
  rw [show beN (rdTake l 1) = k0 from (congrArg beN T0.out.1).trans K0.out]
  have b4 : Below w2.heap.size w3 w4 := below_grown (Below.refl _ _) hg4 (by omega) hg
  have X4 := below_at b4 X3 xB
  have o4 := o3.trans b4
  have q4 := q3.trans (b4.mono q2.size)
  have z4 := hg4.size
  clear X3 o3 hr3 b4 hg4
  go_wp2_with ((with_reducible apply at_store_new 56); (case hx => exact rfl); (case hy => exact rfl); (case hg => first | rfl | simp); (case hi => kernel_rfl); (case hold => rfl); (case h1 => kernel_rfl))
  rw [msC_op (k0 : Int) A3 n3 c3]
  have b5 : Below w4.heap.size w4 (w4.alloc (.cells (msC ⟨k0, 0, 0, 0, 0, ad0, ad0, ad0, ad0, mac0⟩ A3 n3 c3) 56)) := (Below.refl _ _).alloc (Nat.le_refl _) _
  have s5 : GS w w2 (w4.alloc (.cells (msC ⟨k0, 0, 0, 0, 0, ad0, ad0, ad0, ad0, mac0⟩ A3 n3 c3) 56)) w.heap.size g w4.heap.size ⟨k0, 0, 0, 0, 0, ad0, ad0, ad0, ad0, mac0⟩ A3 n3 c3 l 1 :=
    ⟨q4.trans (b5.mono q4.size), below_at b5 X4 (by omega), heap_alloc_at rfl, by
      have h1 := hr4.alloc (.cells (msC ⟨k0, 0, 0, 0, 0, ad0, ad0, ad0, ad0, mac0⟩ A3 n3 c3) 56)
      rw [show rdDrop l 1 = l.drop 1 from T0.out.2.1, show rdSh l 1 false = false from T0.out.2.2] at h1
      exact h1, o4.trans (b5.mono o4.size), Nat.le_refl _, xB, hg, by omega⟩
  generalize w4.alloc (.cells (msC ⟨k0, 0, 0, 0, 0, ad0, ad0, ad0, ad0, mac0⟩ A3 n3 c3) 56) = w5 at *
  generalize w4.heap.size = p at *
  clear hr4 X4 o4 q4 b5 z4 gl
  trace "A"
  refine (ru16_any w5 g _ false s5.R (HDL.out 1)).mono ?_
  rintro e w6 ⟨rfl, hr6, hg6⟩
  have s6 := s5.read hr6 T1.out.2.1 T1.out.2.2 hg6
  clear s5 hr6 hg6
  go_wp2_with fail
  refine (ru8_any w6 g _ false s6.R (HDL.out 3)).mono ?_
  rintro e w7 ⟨rfl, hr7, hg7⟩
  rw [show beN (rdTake (l.drop (1 + 2)) 1) = k3 from (congrArg beN T3.out.1).trans K3.out]
  have s7 := s6.read hr7 T3.out.2.1 T3.out.2.2 hg7
  clear s6 hr7 hg7
  go_wp2_with ((with_reducible apply at_store_one 3); (case hx => exact rfl); (case hy => exact rfl); (case hg => exact s7.P); (case hle => simp); (case hv => rfl); (case hi => kernel_rfl); (case h1 => rfl); (intro w8 g8 P8; replace P8 := Lib.hid P8))
  have s8 := s7.put (hd' := ⟨k0, k3, 0, 0, 0, ad0, ad0, ad0, ad0, mac0⟩) g8 P8.out
  clear s7 g8 P8
  refine (ru32_any w8 g _ false s8.R (HDL.out 4)).mono ?_
  rintro e w9 ⟨rfl, hr9, hg9⟩
  rw [show beN (rdTake (l.drop (3 + 1)) 4) = k4 from (congrArg beN T4.out.1).trans K4.out]
  have s9 := s8.read hr9 T4.out.2.1 T4.out.2.2 hg9
  clear s8 hr9 hg9
  go_wp2_with ((with_reducible apply at_store_one 42); (case hx => exact rfl); (case hy => exact rfl); (case hg => exact s9.P); (case hle => simp); (case hv => rfl); (case hi => kernel_rfl); (case h1 => rfl); (intro w10 g10 P10; replace P10 := Lib.hid P10))
  have s10 := s9.put (hd' := ⟨k0, k3, k4, 0, 0, ad0, ad0, ad0, ad0, mac0⟩) g10 P10.out
  clear s9 g10 P10
  refine (ru16_any w10 g _ false s10.R (HDL.out 8)).mono ?_
  rintro e w11 ⟨rfl, hr11, hg11⟩
  rw [show beN (rdTake (l.drop (4 + 4)) 2) = k8 from (congrArg beN T8.out.1).trans K8.out]
  have s11 := s10.read hr11 T8.out.2.1 T8.out.2.2 hg11
  clear s10 hr11 hg11
  go_wp2_with ((with_reducible apply at_store_one 3); (case hx => exact rfl); (case hy => exact rfl); (case hg => exact s11.P); (case hle => simp); (case hv => rfl); (case hi => kernel_rfl); (case h1 => rfl); (intro w12 g12 P12; replace P12 := Lib.hid P12))
  have s12 := s11.put (hd' := ⟨k0, k3, k4, k8, 0, ad0, ad0, ad0, ad0, mac0⟩) g12 P12.out
  clear s11 g12 P12
  refine (ru16_any w12 g _ false s12.R (HDL.out 10)).mono ?_
  rintro e w13 ⟨rfl, hr13, hg13⟩
  rw [show beN (rdTake (l.drop (8 + 2)) 2) = k10 from (congrArg beN T10.out.1).trans K10.out]
  have s13 := s12.read hr13 T10.out.2.1 T10.out.2.2 hg13
  clear s12 hr13 hg13
  go_wp2_with ((with_reducible apply at_store_one 3); (case hx => exact rfl); (case hy => exact rfl); (case hg => exact s13.P); (case hle => simp); (case hv => rfl); (case hi => kernel_rfl); (case h1 => rfl); (intro w14 g14 P14; replace P14 := Lib.hid P14))
  have s14 := s13.put (hd' := ⟨k0, k3, k4, k8, k10, ad0, ad0, ad0, ad0, mac0⟩) g14 P14.out
  clear s13 g14 P14
  refine (ru32_any w14 g _ false s14.R (HDL.out 12)).mono ?_
  rintro e w15 ⟨rfl, hr15, hg15⟩
  rw [show beN (rdTake (l.drop (10 + 2)) 4) = k12 from (congrArg beN T12.out.1).trans K12.out]
  have s15 := s14.read hr15 T12.out.2.1 T12.out.2.2 hg15
  clear s14 hr15 hg15
  go_wp2_with fail
  refine (aof_any w15 k12 B12.out.1 B12.out.2).mono ?_
  rintro e w16 ⟨rfl, hb16⟩
  have s16 := s15.below hb16
  clear s15 hb16
  go_wp2_with ((with_reducible apply at_store_part 39); (case hx => exact rfl); (case hy => exact rfl); (case hg => exact s16.P); (case hle => simp); (case hi => kernel_rfl); (case h1 => kernel_rfl); (intro w17 g17 P17; replace P17 := Lib.hid P17))
  have s17 := s16.put (hd' := ⟨k0, k3, k4, k8, k10, of4 k12, ad0, ad0, ad0, mac0⟩) g17 P17.out
  clear s16 g17 P17
  refine (ru32_any w17 g _ false s17.R (HDL.out 16)).mono ?_
  rintro e w18 ⟨rfl, hr18, hg18⟩
  rw [show beN (rdTake (l.drop (12 + 4)) 4) = k16 from (congrArg beN T16.out.1).trans K16.out]
  have s18 := s17.read hr18 T16.out.2.1 T16.out.2.2 hg18
  clear s17 hr18 hg18
  go_wp2_with fail
  refine (aof_any w18 k16 B16.out.1 B16.out.2).mono ?_
  rintro e w19 ⟨rfl, hb19⟩
  have s19 := s18.below hb19
  clear s18 hb19
  go_wp2_with ((with_reducible apply at_store_part 39); (case hx => exact rfl); (case hy => exact rfl); (case hg => exact s19.P); (case hle => simp); (case hi => kernel_rfl); (case h1 => kernel_rfl); (intro w20 g20 P20; replace P20 := Lib.hid P20))
  have s20 := s19.put (hd' := ⟨k0, k3, k4, k8, k10, of4 k12, of4 k16, ad0, ad0, mac0⟩) g20 P20.out
  clear s19 g20 P20
  refine (ru32_any w20 g _ false s20.R (HDL.out 20)).mono ?_
  rintro e w21 ⟨rfl, hr21, hg21⟩
  rw [show beN (rdTake (l.drop (16 + 4)) 4) = k20 from (congrArg beN T20.out.1).trans K20.out]
  have s21 := s20.read hr21 T20.out.2.1 T20.out.2.2 hg21
  clear s20 hr21 hg21
  go_wp2_with fail
  refine (aof_any w21 k20 B20.out.1 B20.out.2).mono ?_
  rintro e w22 ⟨rfl, hb22⟩
  have s22 := s21.below hb22
  clear s21 hb22
  go_wp2_with ((with_reducible apply at_store_part 39); (case hx => exact rfl); (case hy => exact rfl); (case hg => exact s22.P); (case hle => simp); (case hi => kernel_rfl); (case h1 => kernel_rfl); (intro w23 g23 P23; replace P23 := Lib.hid P23))
  have s23 := s22.put (hd' := ⟨k0, k3, k4, k8, k10, of4 k12, of4 k16, of4 k20, ad0, mac0⟩) g23 P23.out
  clear s22 g23 P23
  refine (ru32_any w23 g _ false s23.R (HDL.out 24)).mono ?_
  rintro e w24 ⟨rfl, hr24, hg24⟩
  rw [show beN (rdTake (l.drop (20 + 4)) 4) = k24 from (congrArg beN T24.out.1).trans K24.out]
  have s24 := s23.read hr24 T24.out.2.1 T24.out.2.2 hg24
  clear s23 hr24 hg24
  go_wp2_with fail
  refine (aof_any w24 k24 B24.out.1 B24.out.2).mono ?_
  rintro e w25 ⟨rfl, hb25⟩
  have s25 := s24.below hb25
  clear s24 hb25
  go_wp2_with ((with_reducible apply at_store_part 39); (case hx => exact rfl); (case hy => exact rfl); (case hg => exact s25.P); (case hle => simp); (case hi => kernel_rfl); (case h1 => kernel_rfl); (intro w26 g26 P26; replace P26 := Lib.hid P26))
  have s26 := s25.put (hd' := ⟨k0, k3, k4, k8, k10, of4 k12, of4 k16, of4 k20, of4 k24, mac0⟩) g26 P26.out
  clear s25 g26 P26
  have sd := s26.drew
  refine rg_begin (fun _ => True) (by kernel_rfl) ?_
  refine rg_take (v := ?_) 0 rfl (by kernel_rfl) (by kernel_rfl) (by kernel_rfl) (fun _ _ _ h => h) (by rfl) ?_ ?_; rotate_left
  · (intro x hx; go_simp; first | done | with_reducible rfl | (rw [if_pos (by omega)]; try with_reducible rfl) | (rw [if_neg (by omega)]; try with_reducible rfl))
  try simp only [Act.put, List.setIfInBounds_toArray, List.set_cons_zero, List.set_cons_succ]
  refine rg_take (v := ?_) 1 rfl (by kernel_rfl) (by kernel_rfl) (by kernel_rfl) (fun _ _ _ h => h) (by rfl) ?_ ?_; rotate_left
  · (intro x hx; go_simp; first | done | with_reducible rfl | (rw [if_pos (by omega)]; try with_reducible rfl) | (rw [if_neg (by omega)]; try with_reducible rfl))
  try simp only [Act.put, List.setIfInBounds_toArray, List.set_cons_zero, List.set_cons_succ]
  refine rg_take (v := ?_) 2 rfl (by kernel_rfl) (by kernel_rfl) (by kernel_rfl) (fun _ _ _ h => h) (by rfl) ?_ ?_; rotate_left
  · (intro x hx; go_simp; first | done | with_reducible rfl | (rw [if_pos (by omega)]; try with_reducible rfl) | (rw [if_neg (by omega)]; try with_reducible rfl))
  try simp only [Act.put, List.setIfInBounds_toArray, List.set_cons_zero, List.set_cons_succ]
  refine rg_step 3 rfl (by kernel_rfl) (by rfl) (fun K hK => ?_)
  go_simp
  refine (bytes_any _ g 6 _ false sd.R (HDL.out 28)).mono ?_
  rintro e w27 ⟨A27, n27, c27, rfl, ho27, hr27, hg27⟩
  have s27 := sd.read hr27 T28.out.2.1 T28.out.2.2 hg27
  rw [show rdTake (l.drop (24 + 4)) 6 = (l.drop 28).take 6 from T28.out.1] at ho27
  have hn27 : n27 = 6 := by have := ho27.1; rw [HM6.out] at this; exact this
  subst hn27
  refine hK.out _ _ (Ext.of_grown hg27 fun _ _ => trivial) ?_
  clear hK K; try simp only [Act.put, List.setIfInBounds_toArray, List.set_cons_zero, List.set_cons_succ]
  refine rg_step 4 rfl (by kernel_rfl) (by rfl) (fun K hK => ?_)
  refine wp_copy8 _ _ rfl p 21 6 6 _ 56 rfl s27.P _ 6 c27 A27 _ rfl ho27.bs (by omega) (by simp) ?_
  intro w28 hc28 hg28
  rw [splice_ms _ _ _ _ _ HM6.out, K28.out] at hc28
  refine hK.out _ _ (Ext.of_grown hg28 fun _ _ => trivial) ?_
  clear hK K; try simp only [Act.put, List.setIfInBounds_toArray, List.set_cons_zero, List.set_cons_succ]
  refine rg_done (by kernel_rfl) ?_
  have s28 := s27.put hg28 hc28
  clear hc28 hg28 s27 hg27 hr27 ho27 sd s26
  go_wp2_with ((with_reducible apply at_load_row 56); (case hx => exact rfl); (case hg => exact s28.P); (case hu => exact Try.underlying56); (case hd => rfl); (case hi => kernel_rfl))
  refine (type_any w28 _ A3 n3 c3 l3 (ho3.below s28.O).os (bodies_le (by rw [HL3.out]; exact HB.out))).mono ?_
  rw [HL3.out, HT.out]
  rintro e w29 ⟨rfl, hb29⟩
  have s29 := s28.below hb29
  have hr := HR.out
  clear hb29 s28
  by_cases hty : ty = 0
  · subst hty
    rw [if_pos rfl] at hr
    have HR' := Lib.hid hr
    clear hr HR
    go_wp2_with ((with_reducible apply at_store_part 56); (case hx => exact rfl); (case hy => exact rfl); (case hg => exact s29.X); (case hle => simp); (case hi => kernel_rfl); (case h1 => kernel_rfl); (intro w30 g30 X30; replace X30 := Lib.hid X30))
    have X30' : w30.heap[w.heap.size]? = some (.cells mz 56 (0, 0)) := X30.out
    refine bodyPost_cell_tmp w.heap.size _ _ _ rfl rfl X30' Try.underlying56 rfl (by kernel_rfl) rfl ?_
    have := MsPost.none_ (k := 4) (below_grown s29.q g30 s29.q.size (Nat.le_refl _))
    rw [msV, msC_zero, HR'.out] at this
    exact this
  · have hty' : (ty == 0) = false := by rw [beq_eq_false_iff_ne]; exact hty
    rw [if_neg hty] at hr
    have HR' := Lib.hid hr
    clear hr HR hty
    go_wp2_with (first | ((with_reducible apply at_load_row 56); (case hx => exact rfl); (case hg => exact s29.P); (case hu => exact Try.underlying56); (case hd => rfl); (case hi => kernel_rfl)) | ((with_reducible apply at_store_part 56); (case hx => exact rfl); (case hy => exact rfl); (case hg => exact s29.X); (case hle => simp); (case hi => kernel_rfl); (case h1 => kernel_rfl); (intro w30 g30 X30; replace X30 := Lib.hid X30)))
    have X30' : w30.heap[w.heap.size]? = some (.cells (msC ⟨k0, k3, k4, k8, k10, of4 k12, of4 k16, of4 k20, of4 k24, m28⟩ A3 n3 c3) 56 (0, 0)) := X30.out
    refine bodyPost_cell_tmp w.heap.size _ _ _ rfl rfl X30' Try.underlying56 rfl (by kernel_rfl) rfl ?_
    have he := HR'.out
    subst he
    exact ⟨A3, n3, c3, l3, rfl, ((ho3.below s29.O).grown g30 zx).os, HL3.out, below_grown s29.q g30 s29.q.size (Nat.le_refl _)⟩
theorem dget_any (w : World) (A : Option Addr) (n c : Nat) (l : List UInt8) (h : BS w w.heap.size A n c l) (hmx : n ≤ 1099511627776) :
    Calls Try.prog 25 #[.slice A n c] w (MsPost w (getM l)) := by
  by_cases hn : n < 240
  · exact dget_short w A n c l h hn
  · by_cases hf : goodM l
    · obtain ⟨b, o, rfl, _, _⟩ := h.byte (k := 0) (by omega)
      rcases hg : getO (l.drop 240) with _ | os
      · exact dget_none w b o n c l h (by omega) hmx hf hg
      · exact dget_ok w b o n c l h (by omega) hmx hf os hg
    · exact dget_form w A n c l h (by omega) hmx hf
end Go.Proofs.Ytidohmcneoldcaa
