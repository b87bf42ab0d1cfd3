/-
  The walk of the statement ConfKnown.
-/
import Derived.Test.YtnmdiageigbphaaGreatDoorConfBack
namespace Go.Proofs.YtnmdiageigbphaaGreatDoor
open Go.RowKit

def tK1 : List UInt8 := [10, 119, 104, 97, 116, 32, 61, 32, 53]
def tK2 : List UInt8 := [116, 105, 109, 101, 32, 61, 32, 54, 48, 10, 116, 105, 109, 101, 32, 61, 32, 55, 48]
def tK3 : List UInt8 := [116, 105, 109, 101, 32, 61, 32, 53, 57]
def tK4 : List UInt8 := [35, 32, 120, 10, 32, 108, 97, 110, 32, 61, 32, 49, 48, 46, 48, 46, 48, 46, 49, 47, 50, 54, 32, 10, 102, 105, 120, 101, 100, 32, 61, 32, 48, 50, 58, 48, 48, 58, 48, 48, 58, 48, 48, 58, 48, 48, 58, 48, 57, 32, 49, 48, 46, 48, 46, 48, 46, 57, 10,
  111, 112, 101, 110, 32, 61, 32, 116, 99, 112, 32, 56, 48, 32, 49, 48, 46, 48, 46, 48, 46, 57, 32, 56, 48, 56, 48]
def cK : Cf := ⟨⟨10, 0, 0, 1⟩, ⟨10, 0, 0, 0⟩, 26, ⟨2, 0, 0, 0, 0, 1⟩, ⟨2, 0, 0, 0, 0, 2⟩, ⟨10, 0, 0, 2⟩, ⟨10, 0, 0, 33⟩, 3600, ⟨9, 9, 9, 9⟩, 120, 7200, 30, 40000⟩
def fK : Fx := ⟨⟨2, 0, 0, 0, 0, 9⟩, ⟨10, 0, 0, 9⟩⟩
def oK : Opn := ⟨6, 80, ⟨10, 0, 0, 9⟩, 8080⟩
theorem k1_parse : parseG tK1 = (zG, 2, 9) := by kernel_rfl
theorem k2_parse : parseG tK2 = (zG, 2, 8) := by kernel_rfl
theorem k3_parse : parseG tK3 = (zG, 0, 1) := by kernel_rfl
theorem k4_parse : parseG tK4 = (⟨cK, [fK], [oK]⟩, 0, 0) := by kernel_rfl
theorem k4_chk : chkG ⟨cK, [fK], [oK]⟩ = 0 := by kernel_rfl
theorem z_chk : chkG zG = 1 := by kernel_rfl
set_option maxRecDepth 100000 in
set_option maxHeartbeats 4000000 in
/-- What may not be is written as nothing. -/
theorem text_no (w : World) (C : Cg) (A : Option Addr) (n k : Nat) (A2 : Option Addr) (n2 k2 : Nat) (hC : CR w w.heap.size C A n A2 n2) (hk : chkG C ≠ 0) :
    Calls Tryz.prog 12 #[.agg (cfC C.c (.slice A n k) (.slice A2 n2 k2))] w (fun e w' => e = .returned (.string ⟨#[]⟩) ∧ Below w.heap.size w w') := by
  have P0 := heap_alloc_new w (.cells (cfC C.c (.slice A n k) (.slice A2 n2 k2)) 32)
  have b0 : Below w.heap.size w (w.alloc (.cells (cfC C.c (.slice A n k) (.slice A2 n2 k2)) 32)) := (Below.refl _ w).alloc (Nat.le_refl _) _
  have hC0 := hC.next b0
  have d1 : (chkG C != 0) = true := by rw [bne_iff_ne]; exact hk
  have hck := check_all (w.alloc (.cells (cfC C.c (.slice A n k) (.slice A2 n2 k2)) 32)) C A n k A2 n2 k2 hC0
  obtain ⟨er, her⟩ : ∃ e, chkG C = e := ⟨_, rfl⟩
  rw [her] at d1 hck
  have HCK := Lib.hid hck
  clear hck her hk hC hC0
  go_enter Tryz.func12, Tryz.ntmps12
  go_upto_region 1 with fail
  generalize w.alloc (.cells (cfC C.c (.slice A n k) (.slice A2 n2 k2)) 32) = w0 at P0 b0 HCK ⊢
  obtain ⟨g0, hg⟩ : ∃ g, w.heap.size = g := ⟨_, rfl⟩
  have HB := Lib.hid b0
  rw [hg] at P0 ⊢
  clear hg b0
  go_wp2_with ((with_reducible apply at_load_row 32); (case hx => exact rfl); (case hg => exact P0); (case hu => exact Tryz.underlying32); (case hd => rfl); (case hi => kernel_rfl))
  refine HCK.out.mono ?_
  rintro e w1 ⟨rfl, q1⟩
  have b1 := HB.out.trans (q1.mono HB.out.size)
  go_wp2_with fail
  go_ret
  exact ⟨rfl, b1⟩
abbrev cKC (vf vo : Value) : Array Value := #[.int .u8 10, .int .u8 0, .int .u8 0, .int .u8 1, .int .u8 10, .int .u8 0, .int .u8 0, .int .u8 0, .int .i64 26, .int .u8 2, .int .u8 0, .int .u8 0, .int .u8 0, .int .u8 0, .int .u8 1,
  .int .u8 2, .int .u8 0, .int .u8 0, .int .u8 0, .int .u8 0, .int .u8 2, .int .u8 10, .int .u8 0, .int .u8 0, .int .u8 2, .int .u8 10, .int .u8 0, .int .u8 0, .int .u8 33, .int .i64 3600, .int .u8 9, .int .u8 9, .int .u8 9, .int .u8 9,
  .int .i64 120, .int .i64 7200, .int .i64 30, .int .i64 40000, vf, vo]
theorem cKC_eq (vf vo : Value) : cfC cK vf vo = cKC vf vo := rfl
abbrev oKC : Array Value := #[.int .i64 6, .int .i64 80, .int .u8 10, .int .u8 0, .int .u8 0, .int .u8 9, .int .i64 8080]
theorem oKC_eq : opC oK = oKC := rfl
theorem eqK1 (w : World) : (binOp .eql 24 (.agg #[.int .u8 10, .int .u8 0, .int .u8 0, .int .u8 2]) (.agg #[.int .u8 10, .int .u8 0, .int .u8 0, .int .u8 2])).run Tryz.prog w = .ok (.bool true) w := by kernel_rfl
theorem eqK2 (w : World) : (binOp .eql 24 (.agg #[.int .u8 10, .int .u8 0, .int .u8 0, .int .u8 33]) (.agg #[.int .u8 10, .int .u8 0, .int .u8 0, .int .u8 33])).run Tryz.prog w = .ok (.bool true) w := by kernel_rfl
theorem eqK3 (w : World) : (binOp .eql 48 (.agg oKC) (.agg oKC)).run Tryz.prog w = .ok (.bool true) w := by kernel_rfl
set_option maxRecDepth 100000 in
set_option maxHeartbeats 16000000 in
theorem confKnown_any (w : World) (hm : mlIs w) (hpw : powIs w) : Calls Tryz.prog 4 #[] w (TruePost w) := by
  have hmp := hm.pos
  have H1 := Lib.hid (show ∀ w, mlIs w → Calls Tryz.prog 8 #[.string (str tK1)] w (ParseGP w (zG, 2, 9)) from fun w hm => by have h := parse_all w hm tK1 (by decide); rwa [k1_parse] at h)
  have H2 := Lib.hid (show ∀ w, mlIs w → Calls Tryz.prog 8 #[.string (str tK2)] w (ParseGP w (zG, 2, 8)) from fun w hm => by have h := parse_all w hm tK2 (by decide); rwa [k2_parse] at h)
  have H3 := Lib.hid (show ∀ w, mlIs w → Calls Tryz.prog 8 #[.string (str tK3)] w (ParseGP w (zG, 0, 1)) from fun w hm => by have h := parse_all w hm tK3 (by decide); rwa [k3_parse] at h)
  have H4 := Lib.hid (show ∀ w, mlIs w → Calls Tryz.prog 8 #[.string (str tK4)] w (ParseGP w (⟨cK, [fK], [oK]⟩, 0, 0)) from fun w hm => by have h := parse_all w hm tK4 (by decide); rwa [k4_parse] at h)
  have hpar2 := fun w hm => parse_all w hm (textG ⟨cK, [fK], [oK]⟩) (by have := textG_len _ k4_chk; omega)
  rw [parse_textG _ k4_chk] at hpar2
  have htx := fun w hp A n k A2 n2 k2 hC => text_in w hp cK [fK] [oK] A n k A2 n2 k2 hC k4_chk
  obtain ⟨TG, hTG⟩ : ∃ x, textG ⟨cK, [fK], [oK]⟩ = x := ⟨_, rfl⟩
  rw [hTG] at hpar2 htx
  have HP2 := Lib.hid hpar2
  have HTX := Lib.hid htx
  clear hpar2 htx hTG
  go_enter Tryz.func4, Tryz.ntmps4
  go_wp2_with fail
  refine (awake10_any w hm).mono ?_
  rintro e w1 ⟨rfl, b1⟩
  have m1 := hm.below b1 hmp
  have p1 := hpw.below b1
  clear hm hpw
  go_wp2_with fail
  refine (H1.out w1 m1).mono ?_
  rintro e w2 ⟨A1, x1, y1, B1, u1, v1, rfl, _, _, _, q⟩
  have b2 := b1.trans (q.mono b1.size)
  have m2 := m1.below q m1.pos
  have p2 := p1.below q
  clear b1 m1 p1 q
  simp only [zG]
  go_upto_region 4 with ((with_reducible apply at_store_new 32); (case hx => exact rfl); (case hy => exact rfl); (case hg => first | rfl | simp); (case hi => kernel_rfl); (case hold => rfl); (case h1 => kernel_rfl))
  have q : Below w2.heap.size w2 (w2.alloc (.cells (cfC cf0 (.slice A1 x1 y1) (.slice B1 u1 v1)) 32)) := (Below.refl _ w2).alloc (Nat.le_refl _) _
  have b3 := b2.trans (q.mono b2.size)
  have m3 := m2.below q m2.pos
  have p3 := p2.below q
  generalize w2.alloc (.cells (cfC cf0 (.slice A1 x1 y1) (.slice B1 u1 v1)) 32) = w3 at b3 m3 p3 ⊢
  clear b2 m2 p2 q
  go_wp2_with fail
  refine (H2.out w3 m3).mono ?_
  rintro e w4 ⟨A1, x1, y1, B1, u1, v1, rfl, _, _, _, q⟩
  have b4 := b3.trans (q.mono b3.size)
  have m4 := m3.below q m3.pos
  have p4 := p3.below q
  clear b3 m3 p3 q
  simp only [zG]
  go_upto_region 5 with ((with_reducible apply at_store_new 32); (case hx => exact rfl); (case hy => exact rfl); (case hg => first | rfl | simp); (case hi => kernel_rfl); (case hold => rfl); (case h1 => kernel_rfl))
  have q : Below w4.heap.size w4 (w4.alloc (.cells (cfC cf0 (.slice A1 x1 y1) (.slice B1 u1 v1)) 32)) := (Below.refl _ w4).alloc (Nat.le_refl _) _
  have b5 := b4.trans (q.mono b4.size)
  have m5 := m4.below q m4.pos
  have p5 := p4.below q
  generalize w4.alloc (.cells (cfC cf0 (.slice A1 x1 y1) (.slice B1 u1 v1)) 32) = w5 at b5 m5 p5 ⊢
  clear b4 m4 p4 q
  go_wp2_with fail
  refine (H3.out w5 m5).mono ?_
  rintro e w6 ⟨A1, x1, y1, B1, u1, v1, rfl, _, _, _, q⟩
  have b6 := b5.trans (q.mono b5.size)
  have m6 := m5.below q m5.pos
  have p6 := p5.below q
  clear b5 m5 p5 q
  simp only [zG]
  go_upto_region 6 with ((with_reducible apply at_store_new 32); (case hx => exact rfl); (case hy => exact rfl); (case hg => first | rfl | simp); (case hi => kernel_rfl); (case hold => rfl); (case h1 => kernel_rfl))
  have q : Below w6.heap.size w6 (w6.alloc (.cells (cfC cf0 (.slice A1 x1 y1) (.slice B1 u1 v1)) 32)) := (Below.refl _ w6).alloc (Nat.le_refl _) _
  have b7 := b6.trans (q.mono b6.size)
  have m7 := m6.below q m6.pos
  have p7 := p6.below q
  generalize w6.alloc (.cells (cfC cf0 (.slice A1 x1 y1) (.slice B1 u1 v1)) 32) = w7 at b7 m7 p7 ⊢
  clear b6 m6 p6 q
  go_wp2_with fail
  refine (H4.out w7 m7).mono ?_
  rintro e w8 ⟨A, n, k, A2, n2, k2, rfl, _, _, CX, q⟩
  have b8 := b7.trans (q.mono b7.size)
  have m8 := m7.below q m7.pos
  have p8 := p7.below q
  obtain rfl : n = 1 := CX.nf
  obtain rfl : n2 = 1 := CX.no
  have HCX := Lib.hid CX
  clear b7 m7 p7 q CX
  simp only
  go_upto_region 7 with ((with_reducible apply at_store_new 32); (case hx => exact rfl); (case hy => exact rfl); (case hg => first | rfl | simp); (case hi => kernel_rfl); (case hold => rfl); (case h1 => kernel_rfl))
  have q : Below w8.heap.size w8 (w8.alloc (.cells (cfC cK (.slice A 1 k) (.slice A2 1 k2)) 32)) := (Below.refl _ w8).alloc (Nat.le_refl _) _
  have C9 := heap_alloc_new w8 (.cells (cfC cK (.slice A 1 k) (.slice A2 1 k2)) 32)
  have CR9 := HCX.out.next q
  have b9 := b8.trans (q.mono b8.size)
  have m9 := m8.below q m8.pos
  have p9 := p8.below q
  obtain ⟨gc, hgc⟩ : ∃ g, w8.heap.size = g := ⟨_, rfl⟩
  rw [hgc] at C9 ⊢
  generalize w8.alloc (.cells (cfC cK (.slice A 1 k) (.slice A2 1 k2)) 32) = w9 at C9 CR9 b9 m9 p9 ⊢
  clear b8 m8 p8 q hgc HCX
  go_wp2_with ((with_reducible apply at_load_row 32); (case hx => exact rfl); (case hg => exact C9); (case hu => exact Tryz.underlying32); (case hd => rfl); (case hi => kernel_rfl))
  refine (HTX.out w9 p9 A 1 k A2 1 k2 CR9).mono ?_
  rintro e w10 ⟨rfl, q⟩
  have C10 := below_at q C9 (heap_lt C9)
  have CR10 := CR9.next q
  have b10 := b9.trans (q.mono b9.size)
  have m10 := m9.below q m9.pos
  have p10 := p9.below q
  clear C9 CR9 b9 m9 p9 q
  go_wp2_with fail
  refine (HP2.out w10 m10).mono ?_
  rintro e w11 ⟨B, nb, kb, B2, nb2, kb2, rfl, _, _, DX, q⟩
  have C11 := below_at q C10 (heap_lt C10)
  have CR11 := CR10.next q
  have b11 := b10.trans (q.mono b10.size)
  have p11 := p10.below q
  have HDX := Lib.hid DX
  clear C10 CR10 b10 m10 p10 q DX
  simp only
  go_upto_region 8 with ((with_reducible apply at_store_new 32); (case hx => exact rfl); (case hy => exact rfl); (case hg => first | rfl | simp); (case hi => kernel_rfl); (case hold => rfl); (case h1 => kernel_rfl))
  have q : Below w11.heap.size w11 (w11.alloc (.cells (cfC cK (.slice B nb kb) (.slice B2 nb2 kb2)) 32)) := (Below.refl _ w11).alloc (Nat.le_refl _) _
  have D12 := heap_alloc_new w11 (.cells (cfC cK (.slice B nb kb) (.slice B2 nb2 kb2)) 32)
  have DR12 := HDX.out.next q
  have C12 := below_at q C11 (heap_lt C11)
  have CR12 := CR11.next q
  have b12 := b11.trans (q.mono b11.size)
  obtain ⟨gd, hgd⟩ : ∃ g, w11.heap.size = g := ⟨_, rfl⟩
  rw [hgd] at D12 ⊢
  generalize w11.alloc (.cells (cfC cK (.slice B nb kb) (.slice B2 nb2 kb2)) 32) = w12 at C12 CR12 D12 DR12 b12 ⊢
  clear q b11 p11 hgd HDX C11 CR11
  obtain ⟨bk, ob, rfl, hbk⟩ := op_some CR12.ro (i := 0) (f := oK) rfl
  have hra := op_range CR12.ro (i := 0) (f := oK) rfl
  have o0 := Ext.cell (w := w12.drew) (M := fun _ => False) (show w12.drew.cell? ⟨bk, ob, none⟩ = some (.int .i64 6) from hra 0 _ rfl) (fun h => h)
  have o1 := Ext.cell (w := w12.drew) (M := fun _ => False) (show w12.drew.cell? ⟨bk, ob + 1, none⟩ = some (.int .i64 80) from hra 1 _ rfl) (fun h => h)
  have o2 := Ext.cell (w := w12.drew) (M := fun _ => False) (show w12.drew.cell? ⟨bk, ob + 2, none⟩ = some (.int .u8 10) from hra 2 _ rfl) (fun h => h)
  have o3 := Ext.cell (w := w12.drew) (M := fun _ => False) (show w12.drew.cell? ⟨bk, ob + 3, none⟩ = some (.int .u8 0) from hra 3 _ rfl) (fun h => h)
  have o4 := Ext.cell (w := w12.drew) (M := fun _ => False) (show w12.drew.cell? ⟨bk, ob + 4, none⟩ = some (.int .u8 0) from hra 4 _ rfl) (fun h => h)
  have o5 := Ext.cell (w := w12.drew) (M := fun _ => False) (show w12.drew.cell? ⟨bk, ob + 5, none⟩ = some (.int .u8 9) from hra 5 _ rfl) (fun h => h)
  have o6 := Ext.cell (w := w12.drew) (M := fun _ => False) (show w12.drew.cell? ⟨bk, ob + 6, none⟩ = some (.int .i64 8080) from hra 6 _ rfl) (fun h => h)
  have r0 : Below w12.heap.size w12 w12.drew := (Below.refl _ _).drew
  have C12k : w12.heap[gc]? = some (.cells (cKC (.slice A 1 k) (.slice (some ⟨bk, ob, none⟩) 1 k2)) 32 (0, 0)) := C12
  have f0 := Ext.cells (w := w12.drew) (M := fun _ => False) C12k (fun h => h)
  have KC := Ext.at_ (M := fun _ => False) (w := w12.drew) C12 (fun h => h)
  have KD := Ext.at_ (M := fun _ => False) (w := w12.drew) D12 (fun h => h)
  have E1 := eqK1
  have E2 := eqK2
  have E3 := eqK3
  clear hra C12k
  refine rg_begin (fun _ => False) (by kernel_rfl) ?_
  refine rg_take (v := ?_) 0 rfl (by kernel_rfl) (by kernel_rfl) (by kernel_rfl) (fun _ _ _ h => h) (by rfl) ?_ ?_; rotate_left
  · (intro x hx; go_simp; first | done | with_reducible rfl | (rw [if_pos (by omega)]; try with_reducible rfl) | (rw [if_neg (by omega)]; try with_reducible rfl))
  try simp only [Act.put, List.setIfInBounds_toArray, List.set_cons_zero, List.set_cons_succ]
  refine rg_take (v := ?_) 1 rfl (by kernel_rfl) (by kernel_rfl) (by kernel_rfl) (fun _ _ _ h => h) (by rfl) ?_ ?_; rotate_left
  · (intro x hx; go_simp; first | done | with_reducible rfl | (rw [if_pos (by omega)]; try with_reducible rfl) | (rw [if_neg (by omega)]; try with_reducible rfl))
  try simp only [Act.put, List.setIfInBounds_toArray, List.set_cons_zero, List.set_cons_succ]
  refine rg_take (v := ?_) 2 rfl (by kernel_rfl) (by kernel_rfl) (by kernel_rfl) (fun _ _ _ h => h) (by rfl) ?_ ?_; rotate_left
  · (intro x hx; go_simp; first | done | with_reducible rfl | (rw [if_pos (by omega)]; try with_reducible rfl) | (rw [if_neg (by omega)]; try with_reducible rfl))
  try simp only [Act.put, List.setIfInBounds_toArray, List.set_cons_zero, List.set_cons_succ]
  refine rg_take (v := ?_) 3 rfl (by kernel_rfl) (by kernel_rfl) (by kernel_rfl) (fun _ _ _ h => h) (by rfl) ?_ ?_; rotate_left
  · (intro x hx; go_simp; first | done | with_reducible rfl | (rw [if_pos (by omega)]; try with_reducible rfl) | (rw [if_neg (by omega)]; try with_reducible rfl))
  try simp only [Act.put, List.setIfInBounds_toArray, List.set_cons_zero, List.set_cons_succ]
  refine rg_take (v := ?_) 4 rfl (by kernel_rfl) (by kernel_rfl) (by kernel_rfl) (fun _ _ _ h => h) (by rfl) ?_ ?_; rotate_left
  · (intro x hx; go_simp; first | done | with_reducible rfl | (rw [if_pos (by omega)]; try with_reducible rfl) | (rw [if_neg (by omega)]; try with_reducible rfl))
  try simp only [Act.put, List.setIfInBounds_toArray, List.set_cons_zero, List.set_cons_succ]
  refine rg_take (v := ?_) 5 rfl (by kernel_rfl) (by kernel_rfl) (by kernel_rfl) (fun _ _ _ h => h) (by rfl) ?_ ?_; rotate_left
  · (intro x hx; go_simp; first | done | with_reducible rfl | (rw [if_pos (by omega)]; try with_reducible rfl) | (rw [if_neg (by omega)]; try with_reducible rfl))
  try simp only [Act.put, List.setIfInBounds_toArray, List.set_cons_zero, List.set_cons_succ]
  refine rg_take (v := ?_) 6 rfl (by kernel_rfl) (by kernel_rfl) (by kernel_rfl) (fun _ _ _ h => h) (by rfl) ?_ ?_; rotate_left
  · (intro x hx; go_simp; first | done | with_reducible rfl | (rw [if_pos (by omega)]; try with_reducible rfl) | (rw [if_neg (by omega)]; try with_reducible rfl))
  try simp only [Act.put, List.setIfInBounds_toArray, List.set_cons_zero, List.set_cons_succ]
  refine rg_take (v := ?_) 7 rfl (by kernel_rfl) (by kernel_rfl) (by kernel_rfl) (fun _ _ _ h => h) (by rfl) ?_ ?_; rotate_left
  · (intro x hx; go_simp; first | done | with_reducible rfl | (rw [if_pos (by omega)]; try with_reducible rfl) | (rw [if_neg (by omega)]; try with_reducible rfl))
  try simp only [Act.put, List.setIfInBounds_toArray, List.set_cons_zero, List.set_cons_succ]
  refine rg_take (v := ?_) 8 rfl (by kernel_rfl) (by kernel_rfl) (by kernel_rfl) (fun _ _ _ h => h) (by rfl) ?_ ?_; rotate_left
  · (intro x hx; go_simp; first | done | with_reducible rfl | (rw [if_pos (by omega)]; try with_reducible rfl) | (rw [if_neg (by omega)]; try with_reducible rfl))
  try simp only [Act.put, List.setIfInBounds_toArray, List.set_cons_zero, List.set_cons_succ]
  refine rg_take (v := ?_) 9 rfl (by kernel_rfl) (by kernel_rfl) (by kernel_rfl) (fun _ _ _ h => h) (by rfl) ?_ ?_; rotate_left
  · (intro x hx; go_simp; first | done | with_reducible rfl | (rw [if_pos (by omega)]; try with_reducible rfl) | (rw [if_neg (by omega)]; try with_reducible rfl))
  try simp only [Act.put, List.setIfInBounds_toArray, List.set_cons_zero, List.set_cons_succ]
  refine rg_take (v := ?_) 10 rfl (by kernel_rfl) (by kernel_rfl) (by kernel_rfl) (fun _ _ _ h => h) (by rfl) ?_ ?_; rotate_left
  · (intro x hx; go_simp; first | done | with_reducible rfl | (rw [if_pos (by omega)]; try with_reducible rfl) | (rw [if_neg (by omega)]; try with_reducible rfl))
  try simp only [Act.put, List.setIfInBounds_toArray, List.set_cons_zero, List.set_cons_succ]
  refine rg_take (v := ?_) 11 rfl (by kernel_rfl) (by kernel_rfl) (by kernel_rfl) (fun _ _ _ h => h) (by rfl) ?_ ?_; rotate_left
  · (intro x hx; go_simp; first | done | with_reducible rfl | (rw [if_pos (by omega)]; try with_reducible rfl) | (rw [if_neg (by omega)]; try with_reducible rfl))
  try simp only [Act.put, List.setIfInBounds_toArray, List.set_cons_zero, List.set_cons_succ]
  refine rg_take (v := ?_) 12 rfl (by kernel_rfl) (by kernel_rfl) (by kernel_rfl) (fun _ _ _ h => h) (by rfl) ?_ ?_; rotate_left
  · (intro x hx; go_simp; first | done | with_reducible rfl | (rw [if_pos (by omega)]; try with_reducible rfl) | (rw [if_neg (by omega)]; try with_reducible rfl))
  try simp only [Act.put, List.setIfInBounds_toArray, List.set_cons_zero, List.set_cons_succ]
  refine rg_take (v := ?_) 13 rfl (by kernel_rfl) (by kernel_rfl) (by kernel_rfl) (fun _ _ _ h => h) (by rfl) ?_ ?_; rotate_left
  · (intro x hx; go_simp; first | done | with_reducible rfl | (rw [if_pos (by omega)]; try with_reducible rfl) | (rw [if_neg (by omega)]; try with_reducible rfl))
  try simp only [Act.put, List.setIfInBounds_toArray, List.set_cons_zero, List.set_cons_succ]
  refine rg_take (v := ?_) 14 rfl (by kernel_rfl) (by kernel_rfl) (by kernel_rfl) (fun _ _ _ h => h) (by rfl) ?_ ?_; rotate_left
  · (intro x hx; go_simp; first | done | with_reducible rfl | (rw [if_pos (by omega)]; try with_reducible rfl) | (rw [if_neg (by omega)]; try with_reducible rfl))
  try simp only [Act.put, List.setIfInBounds_toArray, List.set_cons_zero, List.set_cons_succ]
  refine rg_take (v := ?_) 15 rfl (by kernel_rfl) (by kernel_rfl) (by kernel_rfl) (fun _ _ _ h => h) (by rfl) ?_ ?_; rotate_left
  · (intro x hx; go_simp; first | done | with_reducible rfl | (rw [if_pos (by omega)]; try with_reducible rfl) | (rw [if_neg (by omega)]; try with_reducible rfl))
  try simp only [Act.put, List.setIfInBounds_toArray, List.set_cons_zero, List.set_cons_succ]
  refine rg_take (v := ?_) 16 rfl (by kernel_rfl) (by kernel_rfl) (by kernel_rfl) (fun _ _ _ h => h) (by rfl) ?_ ?_; rotate_left
  · (intro x hx; go_simp; first | done | with_reducible rfl | (rw [if_pos (by omega)]; try with_reducible rfl) | (rw [if_neg (by omega)]; try with_reducible rfl))
  try simp only [Act.put, List.setIfInBounds_toArray, List.set_cons_zero, List.set_cons_succ]
  refine rg_take (v := ?_) 17 rfl (by kernel_rfl) (by kernel_rfl) (by kernel_rfl) (fun _ _ _ h => h) (by rfl) ?_ ?_; rotate_left
  · (intro x hx; go_simp; first | done | with_reducible rfl | (rw [if_pos (by omega)]; try with_reducible rfl) | (rw [if_neg (by omega)]; try with_reducible rfl))
  try simp only [Act.put, List.setIfInBounds_toArray, List.set_cons_zero, List.set_cons_succ]
  refine rg_take (v := ?_) 18 rfl (by kernel_rfl) (by kernel_rfl) (by kernel_rfl) (fun _ _ _ h => h) (by rfl) ?_ ?_; rotate_left
  · (intro x hx; go_simp; first | done | with_reducible rfl | (rw [if_pos (by omega)]; try with_reducible rfl) | (rw [if_neg (by omega)]; try with_reducible rfl))
  try simp only [Act.put, List.setIfInBounds_toArray, List.set_cons_zero, List.set_cons_succ]
  refine rg_take (v := ?_) 19 rfl (by kernel_rfl) (by kernel_rfl) (by kernel_rfl) (fun _ _ _ h => h) (by rfl) ?_ ?_; rotate_left
  · (intro x hx; go_simp; first | done | with_reducible rfl | (rw [if_pos (by omega)]; try with_reducible rfl) | (rw [if_neg (by omega)]; try with_reducible rfl))
  try simp only [Act.put, List.setIfInBounds_toArray, List.set_cons_zero, List.set_cons_succ]
  refine rg_take (v := ?_) 20 rfl (by kernel_rfl) (by kernel_rfl) (by kernel_rfl) (fun _ _ _ h => h) (by rfl) ?_ ?_; rotate_left
  · (intro x hx; go_simp; first | done | with_reducible rfl | (rw [if_pos (by omega)]; try with_reducible rfl) | (rw [if_neg (by omega)]; try with_reducible rfl))
  try simp only [Act.put, List.setIfInBounds_toArray, List.set_cons_zero, List.set_cons_succ]
  refine rg_take (v := ?_) 21 rfl (by kernel_rfl) (by kernel_rfl) (by kernel_rfl) (fun _ _ _ h => h) (by rfl) ?_ ?_; rotate_left
  · (intro x hx; go_simp; first | done | with_reducible rfl | (rw [if_pos (by omega)]; try with_reducible rfl) | (rw [if_neg (by omega)]; try with_reducible rfl))
  try simp only [Act.put, List.setIfInBounds_toArray, List.set_cons_zero, List.set_cons_succ]
  refine rg_take (v := ?_) 22 rfl (by kernel_rfl) (by kernel_rfl) (by kernel_rfl) (fun _ _ _ h => h) (by rfl) ?_ ?_; rotate_left
  · (intro x hx; go_simp; first | done | with_reducible rfl | (rw [if_pos (by omega)]; try with_reducible rfl) | (rw [if_neg (by omega)]; try with_reducible rfl))
  try simp only [Act.put, List.setIfInBounds_toArray, List.set_cons_zero, List.set_cons_succ]
  refine rg_take (v := ?_) 23 rfl (by kernel_rfl) (by kernel_rfl) (by kernel_rfl) (fun _ _ _ h => h) (by rfl) ?_ ?_; rotate_left
  · (intro x hx; go_simp; first | done | with_reducible rfl | (rw [if_pos (by omega)]; try with_reducible rfl) | (rw [if_neg (by omega)]; try with_reducible rfl))
  try simp only [Act.put, List.setIfInBounds_toArray, List.set_cons_zero, List.set_cons_succ]
  refine rg_take (v := ?_) 24 rfl (by kernel_rfl) (by kernel_rfl) (by kernel_rfl) (fun _ _ _ h => h) (by rfl) ?_ ?_; rotate_left
  · (intro x hx; go_simp; first | done | with_reducible rfl | (rw [if_pos (by omega)]; try with_reducible rfl) | (rw [if_neg (by omega)]; try with_reducible rfl))
  try simp only [Act.put, List.setIfInBounds_toArray, List.set_cons_zero, List.set_cons_succ]
  refine rg_take (v := ?_) 25 rfl (by kernel_rfl) (by kernel_rfl) (by kernel_rfl) (fun _ _ _ h => h) (by rfl) ?_ ?_; rotate_left
  · (intro x hx; go_simp; first | done | with_reducible rfl | (rw [if_pos (by omega)]; try with_reducible rfl) | (rw [if_neg (by omega)]; try with_reducible rfl))
  try simp only [Act.put, List.setIfInBounds_toArray, List.set_cons_zero, List.set_cons_succ]
  refine rg_take (v := ?_) 26 rfl (by kernel_rfl) (by kernel_rfl) (by kernel_rfl) (fun _ _ _ h => h) (by rfl) ?_ ?_; rotate_left
  · (intro x hx; go_simp; first | done | with_reducible rfl | (rw [if_pos (by omega)]; try with_reducible rfl) | (rw [if_neg (by omega)]; try with_reducible rfl))
  try simp only [Act.put, List.setIfInBounds_toArray, List.set_cons_zero, List.set_cons_succ]
  refine rg_take (v := ?_) 27 rfl (by kernel_rfl) (by kernel_rfl) (by kernel_rfl) (fun _ _ _ h => h) (by rfl) ?_ ?_; rotate_left
  · (intro x hx; go_simp; first | done | with_reducible rfl | (rw [if_pos (by omega)]; try with_reducible rfl) | (rw [if_neg (by omega)]; try with_reducible rfl))
  try simp only [Act.put, List.setIfInBounds_toArray, List.set_cons_zero, List.set_cons_succ]
  refine rg_take (v := ?_) 28 rfl (by kernel_rfl) (by kernel_rfl) (by kernel_rfl) (fun _ _ _ h => h) (by rfl) ?_ ?_; rotate_left
  · (intro x hx; go_simp; first | done | with_reducible rfl | (rw [if_pos (by omega)]; try with_reducible rfl) | (rw [if_neg (by omega)]; try with_reducible rfl))
  try simp only [Act.put, List.setIfInBounds_toArray, List.set_cons_zero, List.set_cons_succ]
  refine rg_take (v := ?_) 29 rfl (by kernel_rfl) (by kernel_rfl) (by kernel_rfl) (fun _ _ _ h => h) (by rfl) ?_ ?_; rotate_left
  · (intro x hx; go_simp; first | done | with_reducible rfl | (rw [if_pos (by omega)]; try with_reducible rfl) | (rw [if_neg (by omega)]; try with_reducible rfl))
  try simp only [Act.put, List.setIfInBounds_toArray, List.set_cons_zero, List.set_cons_succ]
  refine rg_take (v := ?_) 30 rfl (by kernel_rfl) (by kernel_rfl) (by kernel_rfl) (fun _ _ _ h => h) (by rfl) ?_ ?_; rotate_left
  · (intro x hx; go_simp; first | done | with_reducible rfl | (rw [if_pos (by omega)]; try with_reducible rfl) | (rw [if_neg (by omega)]; try with_reducible rfl))
  try simp only [Act.put, List.setIfInBounds_toArray, List.set_cons_zero, List.set_cons_succ]
  refine rg_take (v := ?_) 31 rfl (by kernel_rfl) (by kernel_rfl) (by kernel_rfl) (fun _ _ _ h => h) (by rfl) ?_ ?_; rotate_left
  · (intro x hx; go_simp; first | done | with_reducible rfl | (rw [if_pos (by omega)]; try with_reducible rfl) | (rw [if_neg (by omega)]; try with_reducible rfl))
  try simp only [Act.put, List.setIfInBounds_toArray, List.set_cons_zero, List.set_cons_succ]
  refine rg_take (v := ?_) 32 rfl (by kernel_rfl) (by kernel_rfl) (by kernel_rfl) (fun _ _ _ h => h) (by rfl) ?_ ?_; rotate_left
  · (intro x hx; go_simp; first | done | with_reducible rfl | (rw [if_pos (by omega)]; try with_reducible rfl) | (rw [if_neg (by omega)]; try with_reducible rfl))
  try simp only [Act.put, List.setIfInBounds_toArray, List.set_cons_zero, List.set_cons_succ]
  refine rg_take (v := ?_) 33 rfl (by kernel_rfl) (by kernel_rfl) (by kernel_rfl) (fun _ _ _ h => h) (by rfl) ?_ ?_; rotate_left
  · (intro x hx; go_simp; first | done | with_reducible rfl | (rw [if_pos (by omega)]; try with_reducible rfl) | (rw [if_neg (by omega)]; try with_reducible rfl))
  try simp only [Act.put, List.setIfInBounds_toArray, List.set_cons_zero, List.set_cons_succ]
  refine rg_take (v := ?_) 34 rfl (by kernel_rfl) (by kernel_rfl) (by kernel_rfl) (fun _ _ _ h => h) (by rfl) ?_ ?_; rotate_left
  · (intro x hx; go_simp; first | done | with_reducible rfl | (rw [if_pos (by omega)]; try with_reducible rfl) | (rw [if_neg (by omega)]; try with_reducible rfl))
  try simp only [Act.put, List.setIfInBounds_toArray, List.set_cons_zero, List.set_cons_succ]
  refine rg_take (v := ?_) 35 rfl (by kernel_rfl) (by kernel_rfl) (by kernel_rfl) (fun _ _ _ h => h) (by rfl) ?_ ?_; rotate_left
  · (intro x hx; go_simp; first | done | with_reducible rfl | (rw [if_pos (by omega)]; try with_reducible rfl) | (rw [if_neg (by omega)]; try with_reducible rfl))
  try simp only [Act.put, List.setIfInBounds_toArray, List.set_cons_zero, List.set_cons_succ]
  refine rg_take (v := ?_) 36 rfl (by kernel_rfl) (by kernel_rfl) (by kernel_rfl) (fun _ _ _ h => h) (by rfl) ?_ ?_; rotate_left
  · (intro x hx; go_simp; first | done | with_reducible rfl | (rw [if_pos (by omega)]; try with_reducible rfl) | (rw [if_neg (by omega)]; try with_reducible rfl))
  try simp only [Act.put, List.setIfInBounds_toArray, List.set_cons_zero, List.set_cons_succ]
  refine rg_take (v := ?_) 37 rfl (by kernel_rfl) (by kernel_rfl) (by kernel_rfl) (fun _ _ _ h => h) (by rfl) ?_ ?_; rotate_left
  · (intro x hx; go_simp; first | done | with_reducible rfl | (rw [if_pos (by omega)]; try with_reducible rfl) | (rw [if_neg (by omega)]; try with_reducible rfl))
  try simp only [Act.put, List.setIfInBounds_toArray, List.set_cons_zero, List.set_cons_succ]
  refine rg_take (v := ?_) 38 rfl (by kernel_rfl) (by kernel_rfl) (by kernel_rfl) (fun _ _ _ h => h) (by rfl) ?_ ?_; rotate_left
  · (intro x hx; go_simp; first | done | with_reducible rfl | (rw [if_pos (by omega)]; try with_reducible rfl) | (rw [if_neg (by omega)]; try with_reducible rfl))
  try simp only [Act.put, List.setIfInBounds_toArray, List.set_cons_zero, List.set_cons_succ]
  refine rg_take (v := ?_) 39 rfl (by kernel_rfl) (by kernel_rfl) (by kernel_rfl) (fun _ _ _ h => h) (by rfl) ?_ ?_; rotate_left
  · (intro x hx; go_simp; first | done | with_reducible rfl | (rw [if_pos (by omega)]; try with_reducible rfl) | (rw [if_neg (by omega)]; try with_reducible rfl))
  try simp only [Act.put, List.setIfInBounds_toArray, List.set_cons_zero, List.set_cons_succ]
  refine rg_take (v := ?_) 40 rfl (by kernel_rfl) (by kernel_rfl) (by kernel_rfl) (fun _ _ _ h => h) (by rfl) ?_ ?_; rotate_left
  · (intro x hx; go_simp; first | done | with_reducible rfl | (rw [if_pos (by omega)]; try with_reducible rfl) | (rw [if_neg (by omega)]; try with_reducible rfl))
  try simp only [Act.put, List.setIfInBounds_toArray, List.set_cons_zero, List.set_cons_succ]
  refine rg_take (v := ?_) 41 rfl (by kernel_rfl) (by kernel_rfl) (by kernel_rfl) (fun _ _ _ h => h) (by rfl) ?_ ?_; rotate_left
  · (intro x hx; go_simp; first | done | with_reducible rfl | (rw [if_pos (by omega)]; try with_reducible rfl) | (rw [if_neg (by omega)]; try with_reducible rfl))
  try simp only [Act.put, List.setIfInBounds_toArray, List.set_cons_zero, List.set_cons_succ]
  refine rg_take (v := ?_) 42 rfl (by kernel_rfl) (by kernel_rfl) (by kernel_rfl) (fun _ _ _ h => h) (by rfl) ?_ ?_; rotate_left
  · (intro x hx; go_simp; first | done | with_reducible rfl | (rw [if_pos (by omega)]; try with_reducible rfl) | (rw [if_neg (by omega)]; try with_reducible rfl))
  try simp only [Act.put, List.setIfInBounds_toArray, List.set_cons_zero, List.set_cons_succ]
  refine rg_take (v := ?_) 43 rfl (by kernel_rfl) (by kernel_rfl) (by kernel_rfl) (fun _ _ _ h => h) (by rfl) ?_ ?_; rotate_left
  · (intro x hx; go_simp; first | done | with_reducible rfl | (rw [if_pos (by omega)]; try with_reducible rfl) | (rw [if_neg (by omega)]; try with_reducible rfl))
  try simp only [Act.put, List.setIfInBounds_toArray, List.set_cons_zero, List.set_cons_succ]
  refine rg_take (v := ?_) 44 rfl (by kernel_rfl) (by kernel_rfl) (by kernel_rfl) (fun _ _ _ h => h) (by rfl) ?_ ?_; rotate_left
  · (intro x hx; go_simp; first | done | with_reducible rfl | (rw [if_pos (by omega)]; try with_reducible rfl) | (rw [if_neg (by omega)]; try with_reducible rfl))
  try simp only [Act.put, List.setIfInBounds_toArray, List.set_cons_zero, List.set_cons_succ]
  refine rg_take (v := ?_) 45 rfl (by kernel_rfl) (by kernel_rfl) (by kernel_rfl) (fun _ _ _ h => h) (by rfl) ?_ ?_; rotate_left
  · (intro x hx; go_simp; first | done | with_reducible rfl | (rw [if_pos (by omega)]; try with_reducible rfl) | (rw [if_neg (by omega)]; try with_reducible rfl))
  try simp only [Act.put, List.setIfInBounds_toArray, List.set_cons_zero, List.set_cons_succ]
  refine rg_take (v := ?_) 46 rfl (by kernel_rfl) (by kernel_rfl) (by kernel_rfl) (fun _ _ _ h => h) (by rfl) ?_ ?_; rotate_left
  · (intro x hx; go_simp; first | done | with_reducible rfl | (rw [if_pos (by omega)]; try with_reducible rfl) | (rw [if_neg (by omega)]; try with_reducible rfl))
  try simp only [Act.put, List.setIfInBounds_toArray, List.set_cons_zero, List.set_cons_succ]
  refine rg_take (v := ?_) 47 rfl (by kernel_rfl) (by kernel_rfl) (by kernel_rfl) (fun _ _ _ h => h) (by rfl) ?_ ?_; rotate_left
  · (intro x hx; go_simp; first | done | with_reducible rfl | (rw [if_pos (by omega)]; try with_reducible rfl) | (rw [if_neg (by omega)]; try with_reducible rfl))
  try simp only [Act.put, List.setIfInBounds_toArray, List.set_cons_zero, List.set_cons_succ]
  refine rg_take (v := ?_) 48 rfl (by kernel_rfl) (by kernel_rfl) (by kernel_rfl) (fun _ _ _ h => h) (by rfl) ?_ ?_; rotate_left
  · (intro x hx; go_simp; first | done | with_reducible rfl | (rw [if_pos (by omega)]; try with_reducible rfl) | (rw [if_neg (by omega)]; try with_reducible rfl))
  try simp only [Act.put, List.setIfInBounds_toArray, List.set_cons_zero, List.set_cons_succ]
  refine rg_take (v := ?_) 49 rfl (by kernel_rfl) (by kernel_rfl) (by kernel_rfl) (fun _ _ _ h => h) (by rfl) ?_ ?_; rotate_left
  · (intro x hx; go_simp; first | done | with_reducible rfl | (rw [if_pos (by omega)]; try with_reducible rfl) | (rw [if_neg (by omega)]; try with_reducible rfl))
  try simp only [Act.put, List.setIfInBounds_toArray, List.set_cons_zero, List.set_cons_succ]
  refine rg_take (v := ?_) 50 rfl (by kernel_rfl) (by kernel_rfl) (by kernel_rfl) (fun _ _ _ h => h) (by rfl) ?_ ?_; rotate_left
  · (intro x hx; go_simp; first | done | with_reducible rfl | (rw [if_pos (by omega)]; try with_reducible rfl) | (rw [if_neg (by omega)]; try with_reducible rfl))
  try simp only [Act.put, List.setIfInBounds_toArray, List.set_cons_zero, List.set_cons_succ]
  refine rg_take (v := ?_) 51 rfl (by kernel_rfl) (by kernel_rfl) (by kernel_rfl) (fun _ _ _ h => h) (by rfl) ?_ ?_; rotate_left
  · (intro x hx; go_simp; first | done | with_reducible rfl | (rw [if_pos (by omega)]; try with_reducible rfl) | (rw [if_neg (by omega)]; try with_reducible rfl))
  try simp only [Act.put, List.setIfInBounds_toArray, List.set_cons_zero, List.set_cons_succ]
  refine rg_take (v := ?_) 52 rfl (by kernel_rfl) (by kernel_rfl) (by kernel_rfl) (fun _ _ _ h => h) (by rfl) ?_ ?_; rotate_left
  · (intro x hx; go_simp; first | done | with_reducible rfl | (rw [if_pos (by omega)]; try with_reducible rfl) | (rw [if_neg (by omega)]; try with_reducible rfl))
  try simp only [Act.put, List.setIfInBounds_toArray, List.set_cons_zero, List.set_cons_succ]
  refine rg_take (v := ?_) 53 rfl (by kernel_rfl) (by kernel_rfl) (by kernel_rfl) (fun _ _ _ h => h) (by rfl) ?_ ?_; rotate_left
  · (intro x hx; go_simp; first | done | with_reducible rfl | (rw [if_pos (by omega)]; try with_reducible rfl) | (rw [if_neg (by omega)]; try with_reducible rfl))
  try simp only [Act.put, List.setIfInBounds_toArray, List.set_cons_zero, List.set_cons_succ]
  refine rg_take (v := ?_) 54 rfl (by kernel_rfl) (by kernel_rfl) (by kernel_rfl) (fun _ _ _ h => h) (by rfl) ?_ ?_; rotate_left
  · (intro x hx; go_simp; first | done | with_reducible rfl | (rw [if_pos (by omega)]; try with_reducible rfl) | (rw [if_neg (by omega)]; try with_reducible rfl))
  try simp only [Act.put, List.setIfInBounds_toArray, List.set_cons_zero, List.set_cons_succ]
  refine rg_take (v := ?_) 55 rfl (by kernel_rfl) (by kernel_rfl) (by kernel_rfl) (fun _ _ _ h => h) (by rfl) ?_ ?_; rotate_left
  · (intro x hx; go_simp; first | done | with_reducible rfl | (rw [if_pos (by omega)]; try with_reducible rfl) | (rw [if_neg (by omega)]; try with_reducible rfl))
  try simp only [Act.put, List.setIfInBounds_toArray, List.set_cons_zero, List.set_cons_succ]
  refine rg_take (v := ?_) 56 rfl (by kernel_rfl) (by kernel_rfl) (by kernel_rfl) (fun _ _ _ h => h) (by rfl) ?_ ?_; rotate_left
  · (intro x hx; go_simp; first | done | with_reducible rfl | (rw [if_pos (by omega)]; try with_reducible rfl) | (rw [if_neg (by omega)]; try with_reducible rfl))
  try simp only [Act.put, List.setIfInBounds_toArray, List.set_cons_zero, List.set_cons_succ]
  refine rg_take (v := ?_) 57 rfl (by kernel_rfl) (by kernel_rfl) (by kernel_rfl) (fun _ _ _ h => h) (by rfl) ?_ ?_; rotate_left
  · (intro x hx; go_simp; first | done | with_reducible rfl | (rw [if_pos (by omega)]; try with_reducible rfl) | (rw [if_neg (by omega)]; try with_reducible rfl))
  try simp only [Act.put, List.setIfInBounds_toArray, List.set_cons_zero, List.set_cons_succ]
  refine rg_take (v := ?_) 58 rfl (by kernel_rfl) (by kernel_rfl) (by kernel_rfl) (fun _ _ _ h => h) (by rfl) ?_ ?_; rotate_left
  · (intro x hx; go_simp; first | done | with_reducible rfl | (rw [if_pos (by omega)]; try with_reducible rfl) | (rw [if_neg (by omega)]; try with_reducible rfl))
  try simp only [Act.put, List.setIfInBounds_toArray, List.set_cons_zero, List.set_cons_succ]
  refine rg_take (v := ?_) 59 rfl (by kernel_rfl) (by kernel_rfl) (by kernel_rfl) (fun _ _ _ h => h) (by rfl) ?_ ?_; rotate_left
  · (intro x hx; go_simp; first | done | with_reducible rfl | (rw [if_pos (by omega)]; try with_reducible rfl) | (rw [if_neg (by omega)]; try with_reducible rfl))
  try simp only [Act.put, List.setIfInBounds_toArray, List.set_cons_zero, List.set_cons_succ]
  refine rg_take (v := ?_) 60 rfl (by kernel_rfl) (by kernel_rfl) (by kernel_rfl) (fun _ _ _ h => h) (by rfl) ?_ ?_; rotate_left
  · (intro x hx; go_simp; first | done | with_reducible rfl | (rw [if_pos (by omega)]; try with_reducible rfl) | (rw [if_neg (by omega)]; try with_reducible rfl))
  try simp only [Act.put, List.setIfInBounds_toArray, List.set_cons_zero, List.set_cons_succ]
  refine rg_take (v := ?_) 61 rfl (by kernel_rfl) (by kernel_rfl) (by kernel_rfl) (fun _ _ _ h => h) (by rfl) ?_ ?_; rotate_left
  · (intro x hx; go_simp; first | done | with_reducible rfl | (rw [if_pos (by omega)]; try with_reducible rfl) | (rw [if_neg (by omega)]; try with_reducible rfl))
  try simp only [Act.put, List.setIfInBounds_toArray, List.set_cons_zero, List.set_cons_succ]
  refine rg_take (v := ?_) 62 rfl (by kernel_rfl) (by kernel_rfl) (by kernel_rfl) (fun _ _ _ h => h) (by rfl) ?_ ?_; rotate_left
  · (intro x hx; go_simp; first | done | with_reducible rfl | (rw [if_pos (by omega)]; try with_reducible rfl) | (rw [if_neg (by omega)]; try with_reducible rfl))
  try simp only [Act.put, List.setIfInBounds_toArray, List.set_cons_zero, List.set_cons_succ]
  refine rg_take (v := ?_) 63 rfl (by kernel_rfl) (by kernel_rfl) (by kernel_rfl) (fun _ _ _ h => h) (by rfl) ?_ ?_; rotate_left
  · (intro x hx; go_simp; first | done | with_reducible rfl | (rw [if_pos (by omega)]; try with_reducible rfl) | (rw [if_neg (by omega)]; try with_reducible rfl))
  try simp only [Act.put, List.setIfInBounds_toArray, List.set_cons_zero, List.set_cons_succ]
  refine rg_take (v := ?_) 64 rfl (by kernel_rfl) (by kernel_rfl) (by kernel_rfl) (fun _ _ _ h => h) (by rfl) ?_ ?_; rotate_left
  · (intro x hx; go_simp; first | done | with_reducible rfl | (rw [if_pos (by omega)]; try with_reducible rfl) | (rw [if_neg (by omega)]; try with_reducible rfl))
  try simp only [Act.put, List.setIfInBounds_toArray, List.set_cons_zero, List.set_cons_succ]
  refine rg_take (v := ?_) 65 rfl (by kernel_rfl) (by kernel_rfl) (by kernel_rfl) (fun _ _ _ h => h) (by rfl) ?_ ?_; rotate_left
  · (intro x hx; go_simp; first | done | with_reducible rfl | (rw [if_pos (by omega)]; try with_reducible rfl) | (rw [if_neg (by omega)]; try with_reducible rfl))
  try simp only [Act.put, List.setIfInBounds_toArray, List.set_cons_zero, List.set_cons_succ]
  refine rg_take (v := ?_) 66 rfl (by kernel_rfl) (by kernel_rfl) (by kernel_rfl) (fun _ _ _ h => h) (by rfl) ?_ ?_; rotate_left
  · (intro x hx; go_simp; first | done | with_reducible rfl | (rw [if_pos (by omega)]; try with_reducible rfl) | (rw [if_neg (by omega)]; try with_reducible rfl))
  try simp only [Act.put, List.setIfInBounds_toArray, List.set_cons_zero, List.set_cons_succ]
  refine rg_take (v := ?_) 67 rfl (by kernel_rfl) (by kernel_rfl) (by kernel_rfl) (fun _ _ _ h => h) (by rfl) ?_ ?_; rotate_left
  · (intro x hx; go_simp; first | done | with_reducible rfl | (rw [if_pos (by omega)]; try with_reducible rfl) | (rw [if_neg (by omega)]; try with_reducible rfl))
  try simp only [Act.put, List.setIfInBounds_toArray, List.set_cons_zero, List.set_cons_succ]
  refine rg_take (v := .agg (cfC cK (.slice B nb kb) (.slice B2 nb2 kb2))) 68 rfl (by kernel_rfl) (by kernel_rfl) (by kernel_rfl) (fun _ _ _ h => h) (by rfl) ?_ ?_
  · (intro x hx; apply run_load_big; (case ho => exact rfl); (case hv => exact rfl); (case hg => exact KD x hx); (case hu => exact Tryz.underlying32); (case hd => rfl); (case hi => kernel_rfl))
  try simp only [Act.put, List.setIfInBounds_toArray, List.set_cons_zero, List.set_cons_succ]
  refine rg_take (v := .agg (cfC cK (.slice A 1 k) (.slice (some ⟨bk, ob, none⟩) 1 k2))) 70 rfl (by kernel_rfl) (by kernel_rfl) (by kernel_rfl) (fun _ _ _ h => h) (by rfl) ?_ ?_
  · (intro x hx; apply run_load_big; (case ho => exact rfl); (case hv => exact rfl); (case hg => exact KC x hx); (case hu => exact Tryz.underlying32); (case hd => rfl); (case hi => kernel_rfl))
  try simp only [Act.put, List.setIfInBounds_toArray, List.set_cons_zero, List.set_cons_succ]
  refine rg_step 69 rfl (by kernel_rfl) (by rfl) (fun K hK => ?_)
  go_simp
  clear f0 o0 o1 o2 o3 o4 o5 o6
  refine (own_all _ ⟨cK, [fK], [oK]⟩ B nb kb B2 nb2 kb2 (DR12.next r0)).mono ?_
  rintro e u1 ⟨Oa, on, ok, Oa2, on2, ok2, rfl, _, _, OC, p1⟩
  replace r0 := r0.trans (p1.mono r0.size)
  refine hK.out _ _ (Ext.below_all _ p1) ?_
  clear hK K; try simp only [Act.put, List.setIfInBounds_toArray, List.set_cons_zero, List.set_cons_succ]
  refine rg_step 71 rfl (by kernel_rfl) (by rfl) (fun K hK => ?_)
  go_simp
  refine (own_all _ ⟨cK, [fK], [oK]⟩ A 1 k _ 1 k2 (CR12.next r0)).mono ?_
  rintro e u2 ⟨Va, vn, vk, Va2, vn2, vk2, rfl, _, _, VC, p2⟩
  replace r0 := r0.trans (p2.mono r0.size)
  have OC := OC.next p2
  refine hK.out _ _ (Ext.below_all _ p2) ?_
  clear hK K; try simp only [Act.put, List.setIfInBounds_toArray, List.set_cons_zero, List.set_cons_succ]
  refine rg_step 72 rfl (by kernel_rfl) (by rfl) (fun K hK => ?_)
  go_simp
  refine (same_all _ ⟨cK, [fK], [oK]⟩ Oa on ok Oa2 on2 ok2 OC Va vn vk Va2 vn2 vk2 VC).mono ?_
  rintro e u3 ⟨rfl, p3⟩
  replace r0 := r0.trans (p3.mono r0.size)
  refine hK.out _ _ (Ext.below_all _ p3) ?_
  clear hK K; try simp only [Act.put, List.setIfInBounds_toArray, List.set_cons_zero, List.set_cons_succ]
  refine rg_take (v := ?_) 73 rfl (by kernel_rfl) (by kernel_rfl) (by kernel_rfl) (fun _ _ _ h => h) (by rfl) ?_ ?_; rotate_left
  · (intro x hx; go_simp; first | done | with_reducible rfl | (rw [if_pos (by omega)]; try with_reducible rfl) | (rw [if_neg (by omega)]; try with_reducible rfl))
  try simp only [Act.put, List.setIfInBounds_toArray, List.set_cons_zero, List.set_cons_succ]
  refine rg_take (v := ?_) 74 rfl (by kernel_rfl) (by kernel_rfl) (by kernel_rfl) (fun _ _ _ h => h) (by rfl) ?_ ?_; rotate_left
  · (intro x hx; go_simp; first | done | with_reducible rfl | (rw [if_pos (by omega)]; try with_reducible rfl) | (rw [if_neg (by omega)]; try with_reducible rfl))
  try simp only [Act.put, List.setIfInBounds_toArray, List.set_cons_zero, List.set_cons_succ]
  refine rg_take (v := ?_) 75 rfl (by kernel_rfl) (by kernel_rfl) (by kernel_rfl) (fun _ _ _ h => h) (by rfl) ?_ ?_; rotate_left
  · (intro x hx; go_simp; first | done | with_reducible rfl | (rw [if_pos (by omega)]; try with_reducible rfl) | (rw [if_neg (by omega)]; try with_reducible rfl))
  try simp only [Act.put, List.setIfInBounds_toArray, List.set_cons_zero, List.set_cons_succ]
  refine rg_step 76 rfl (by kernel_rfl) (by rfl) (fun K hK => ?_)
  go_simp
  refine (text_no _ zG none 0 0 none 0 0 (CR.zero _ _) (by rw [z_chk]; decide)).mono ?_
  rintro e u4 ⟨rfl, p4⟩
  replace r0 := r0.trans (p4.mono r0.size)
  refine hK.out _ _ (Ext.below_all _ p4) ?_
  clear hK K; try simp only [Act.put, List.setIfInBounds_toArray, List.set_cons_zero, List.set_cons_succ]
  refine rg_take (v := ?_) 77 rfl (by kernel_rfl) (by kernel_rfl) (by kernel_rfl) (fun _ _ _ h => h) (by rfl) ?_ ?_; rotate_left
  · (intro x hx; go_simp; first | done | with_reducible rfl | (rw [if_pos (by omega)]; try with_reducible rfl) | (rw [if_neg (by omega)]; try with_reducible rfl))
  try simp only [Act.put, List.setIfInBounds_toArray, List.set_cons_zero, List.set_cons_succ]
  refine rg_take (v := ?_) 78 rfl (by kernel_rfl) (by kernel_rfl) (by kernel_rfl) (fun _ _ _ h => h) (by rfl) ?_ ?_; rotate_left
  · (intro x hx; go_simp; first | done | with_reducible rfl | (rw [if_pos (by omega)]; try with_reducible rfl) | (rw [if_neg (by omega)]; try with_reducible rfl))
  try simp only [Act.put, List.setIfInBounds_toArray, List.set_cons_zero, List.set_cons_succ]
  refine rg_take (v := ?_) 79 rfl (by kernel_rfl) (by kernel_rfl) (by kernel_rfl) (fun _ _ _ h => h) (by rfl) ?_ ?_; rotate_left
  · (intro x hx; go_simp; first | done | with_reducible rfl | (rw [if_pos (by omega)]; try with_reducible rfl) | (rw [if_neg (by omega)]; try with_reducible rfl))
  try simp only [Act.put, List.setIfInBounds_toArray, List.set_cons_zero, List.set_cons_succ]
  refine rg_take (v := ?_) 80 rfl (by kernel_rfl) (by kernel_rfl) (by kernel_rfl) (fun _ _ _ h => h) (by rfl) ?_ ?_; rotate_left
  · (intro x hx; go_simp; first | done | with_reducible rfl | (rw [if_pos (by omega)]; try with_reducible rfl) | (rw [if_neg (by omega)]; try with_reducible rfl))
  try simp only [Act.put, List.setIfInBounds_toArray, List.set_cons_zero, List.set_cons_succ]
  refine rg_step 81 rfl (by kernel_rfl) (by rfl) (fun K hK => ?_)
  go_simp
  refine (check_all _ zG none 0 0 none 0 0 (CR.zero _ _)).mono ?_
  rw [z_chk]
  rintro e u5 ⟨rfl, p5⟩
  replace r0 := r0.trans (p5.mono r0.size)
  refine hK.out _ _ (Ext.below_all _ p5) ?_
  clear hK K; try simp only [Act.put, List.setIfInBounds_toArray, List.set_cons_zero, List.set_cons_succ]
  refine rg_take (v := ?_) 82 rfl (by kernel_rfl) (by kernel_rfl) (by kernel_rfl) (fun _ _ _ h => h) (by rfl) ?_ ?_; rotate_left
  · (intro x hx; go_simp; first | done | with_reducible rfl | (rw [if_pos (by omega)]; try with_reducible rfl) | (rw [if_neg (by omega)]; try with_reducible rfl))
  try simp only [Act.put, List.setIfInBounds_toArray, List.set_cons_zero, List.set_cons_succ]
  refine rg_take (v := ?_) 83 rfl (by kernel_rfl) (by kernel_rfl) (by kernel_rfl) (fun _ _ _ h => h) (by rfl) ?_ ?_; rotate_left
  · (intro x hx; go_simp; first | done | with_reducible rfl | (rw [if_pos (by omega)]; try with_reducible rfl) | (rw [if_neg (by omega)]; try with_reducible rfl))
  try simp only [Act.put, List.setIfInBounds_toArray, List.set_cons_zero, List.set_cons_succ]
  refine rg_take (v := ?_) 84 rfl (by kernel_rfl) (by kernel_rfl) (by kernel_rfl) (fun _ _ _ h => h) (by rfl) ?_ ?_; rotate_left
  · (intro x hx; go_simp; first | done | with_reducible rfl | (rw [if_pos (by omega)]; try with_reducible rfl) | (rw [if_neg (by omega)]; try with_reducible rfl))
  try simp only [Act.put, List.setIfInBounds_toArray, List.set_cons_zero, List.set_cons_succ]
  refine rg_done (by kernel_rfl) ?_
  go_wp2_with fail
  go_ret
  exact ⟨rfl, b12.trans (r0.mono b12.size)⟩
end Go.Proofs.YtnmdiageigbphaaGreatDoor
