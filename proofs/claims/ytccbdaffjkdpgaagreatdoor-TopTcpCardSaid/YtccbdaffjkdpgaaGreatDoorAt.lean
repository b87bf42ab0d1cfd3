/-
  The references' At16 and At32: numbers that are there.
-/
import Derived.Test.YtccbdaffjkdpgaaGreatDoorOctet6
namespace Go.Proofs.YtccbdaffjkdpgaaGreatDoor
open Go.RowKit

/-- A byte of a slice, in every later world. -/
theorem BS.byte {w : World} {B n c : Nat} {A : Option Addr} {l : List UInt8} (h : BS w B A n c l) {k : Nat} (hk : k < n) :
    ∃ b o, A = some ⟨b, o, none⟩ ∧ b < B ∧ ∀ j (hj : j < l.length), w.cell? ⟨b, o + j, none⟩ = some (.int .u8 (l[j].toNat : Int)) := by
  have hl := h.1
  rcases h.2.2.2 with h0 | ⟨b, o, hA, hb, hc⟩
  · have := congrArg List.length h0
    rw [bv_length] at this
    simp at this
    rw [this] at hl
    simp at hl
    omega
  · exact ⟨b, o, hA, hb, fun j hj => hc j _ (bv_get l j hj)⟩
theorem Ext.cell {w : World} {M : Nat → Prop} {b o : Nat} {v : Value} (h : w.cell? ⟨b, o, none⟩ = some v) (hM : ¬ M b) :
    ∀ x, Ext M w x → x.cell? ⟨b, o, none⟩ = some v := by
  intro x hx
  have hlt := World.block_lt_of_cell? w _ h
  exact (World.cell?_of_block (w := w) (a := ⟨b, o, none⟩) (hx.block b hlt hM)).trans h

set_option maxRecDepth 100000 in
set_option maxHeartbeats 1000000 in
theorem at16_any (w : World) (A : Option Addr) (n c : Nat) (l : List UInt8) (k : Int) (x y : UInt8) (h : BS w w.heap.size A n c l) (hk : 0 ≤ k) (hn : k + 1 < n) (hmx : n ≤ 9223372036854775807) (hx : l[k.toNat]? = some x) (hy : l[k.toNat + 1]? = some y) :
    Calls Tryz.prog 17 #[.slice A n c, .int .i64 k] w (fun e w' => e = .returned (.int .i64 ((x.toNat : Int) * 256 + y.toNat)) ∧ Below w.heap.size w w') := by
  obtain ⟨b, o, rfl, hb, hc⟩ := h.byte (k := 0) (by omega)
  obtain ⟨j, rfl⟩ := Int.eq_ofNat_of_zero_le hk
  simp only [Int.toNat_natCast] at hx hy
  have hl := h.1
  have d0 : w.cell? ⟨b, o + j, none⟩ = some (.int .u8 (x.toNat : Int)) := by
    have := hc j (by omega)
    rw [List.getElem?_eq_getElem (by omega)] at hx
    injection hx with hx
    rwa [hx] at this
  have d1 : w.cell? ⟨b, o + (j + 1), none⟩ = some (.int .u8 (y.toNat : Int)) := by
    have := hc (j + 1) (by omega)
    rw [List.getElem?_eq_getElem (by omega)] at hy
    injection hy with hy
    rwa [hy] at this
  have g0 := Ext.cell (w := w.drew) (M := fun k => w.heap.size ≤ k) d0 (by omega)
  have g1 := Ext.cell (w := w.drew) (M := fun k => w.heap.size ≤ k) d1 (by omega)
  have hx8 := x.toNat_lt
  have hy8 := y.toNat_lt
  have e1 : IntKind.i64.wrap ((j : Int) + 1) = (j : Int) + 1 := IntWalk.i64_in _ (by omega)
  have e2 : ((j : Int) + 1).toNat = j + 1 := by omega
  have e3 : IntKind.i64.wrap (x.toNat : Int) = (x.toNat : Int) := IntWalk.i64_in _ (by omega)
  have e4 : IntKind.i64.wrap ((x.toNat : Int) * 256) = (x.toNat : Int) * 256 := IntWalk.i64_in _ (by omega)
  have e5 : IntKind.i64.wrap (y.toNat : Int) = (y.toNat : Int) := IntWalk.i64_in _ (by omega)
  have e6 : bits BinOp.or IntKind.i64 ((x.toNat : Int) * 256) (y.toNat : Int) = (x.toNat : Int) * 256 + y.toNat := by
    have := i64_or_join (x.toNat * 256) y.toNat 8 (by omega) (by omega) (by omega)
    simpa using this
  have e7 : ((j : Int) : Int).toNat = j := by omega
  clear d0 d1 hc h hx hy hl
  go_enter Tryz.func17, Tryz.ntmps17
  go_wp2_with fail
  refine rg_begin (fun k => w.heap.size ≤ k) (by kernel_rfl) ?_
  refine rg_take (v := ?_) 0 rfl (by kernel_rfl) (by kernel_rfl) (by kernel_rfl) (fun _ _ _ h => h) (by rfl) ?_ ?_; rotate_left
  · (intro x hx; go_simp; first | done | with_reducible rfl | (rw [if_pos (by omega)]; try with_reducible rfl))
  try simp only [Act.put, List.setIfInBounds_toArray, List.set_cons_zero, List.set_cons_succ]
  refine rg_take (v := ?_) 1 rfl (by kernel_rfl) (by kernel_rfl) (by kernel_rfl) (fun _ _ _ h => h) (by rfl) ?_ ?_; rotate_left
  · (intro x hx; go_simp; first | done | with_reducible rfl | (rw [if_pos (by omega)]; try with_reducible rfl))
  try simp only [Act.put, List.setIfInBounds_toArray, List.set_cons_zero, List.set_cons_succ]
  refine rg_take (v := ?_) 2 rfl (by kernel_rfl) (by kernel_rfl) (by kernel_rfl) (fun _ _ _ h => h) (by rfl) ?_ ?_; rotate_left
  · (intro x hx; go_simp; first | done | with_reducible rfl | (rw [if_pos (by omega)]; try with_reducible rfl))
  try simp only [Act.put, List.setIfInBounds_toArray, List.set_cons_zero, List.set_cons_succ]
  refine rg_take (v := ?_) 3 rfl (by kernel_rfl) (by kernel_rfl) (by kernel_rfl) (fun _ _ _ h => h) (by rfl) ?_ ?_; rotate_left
  · (intro x hx; go_simp; first | done | with_reducible rfl | (rw [if_pos (by omega)]; try with_reducible rfl))
  try simp only [Act.put, List.setIfInBounds_toArray, List.set_cons_zero, List.set_cons_succ]
  refine rg_take (v := ?_) 4 rfl (by kernel_rfl) (by kernel_rfl) (by kernel_rfl) (fun _ _ _ h => h) (by rfl) ?_ ?_; rotate_left
  · (intro x hx; go_simp; first | done | with_reducible rfl | (rw [if_pos (by omega)]; try with_reducible rfl))
  try simp only [Act.put, List.setIfInBounds_toArray, List.set_cons_zero, List.set_cons_succ]
  refine rg_take (v := ?_) 5 rfl (by kernel_rfl) (by kernel_rfl) (by kernel_rfl) (fun _ _ _ h => h) (by rfl) ?_ ?_; rotate_left
  · (intro x hx; go_simp; first | done | with_reducible rfl | (rw [if_pos (by omega)]; try with_reducible rfl))
  try simp only [Act.put, List.setIfInBounds_toArray, List.set_cons_zero, List.set_cons_succ]
  refine rg_take (v := ?_) 6 rfl (by kernel_rfl) (by kernel_rfl) (by kernel_rfl) (fun _ _ _ h => h) (by rfl) ?_ ?_; rotate_left
  · (intro x hx; go_simp; first | done | with_reducible rfl | (rw [if_pos (by omega)]; try with_reducible rfl))
  try simp only [Act.put, List.setIfInBounds_toArray, List.set_cons_zero, List.set_cons_succ]
  refine rg_take (v := ?_) 7 rfl (by kernel_rfl) (by kernel_rfl) (by kernel_rfl) (fun _ _ _ h => h) (by rfl) ?_ ?_; rotate_left
  · (intro x hx; go_simp; first | done | with_reducible rfl | (rw [if_pos (by omega)]; try with_reducible rfl))
  try simp only [Act.put, List.setIfInBounds_toArray, List.set_cons_zero, List.set_cons_succ]
  refine rg_take (v := ?_) 8 rfl (by kernel_rfl) (by kernel_rfl) (by kernel_rfl) (fun _ _ _ h => h) (by rfl) ?_ ?_; rotate_left
  · (intro x hx; go_simp; first | done | with_reducible rfl | (rw [if_pos (by omega)]; try with_reducible rfl))
  try simp only [Act.put, List.setIfInBounds_toArray, List.set_cons_zero, List.set_cons_succ]
  refine rg_take (v := ?_) 9 rfl (by kernel_rfl) (by kernel_rfl) (by kernel_rfl) (fun _ _ _ h => h) (by rfl) ?_ ?_; rotate_left
  · (intro x hx; go_simp; first | done | with_reducible rfl | (rw [if_pos (by omega)]; try with_reducible rfl))
  try simp only [Act.put, List.setIfInBounds_toArray, List.set_cons_zero, List.set_cons_succ]
  refine rg_take (v := ?_) 10 rfl (by kernel_rfl) (by kernel_rfl) (by kernel_rfl) (fun _ _ _ h => h) (by rfl) ?_ ?_; rotate_left
  · (intro x hx; go_simp; first | done | with_reducible rfl | (rw [if_pos (by omega)]; try with_reducible rfl))
  try simp only [Act.put, List.setIfInBounds_toArray, List.set_cons_zero, List.set_cons_succ]
  refine rg_take (v := ?_) 11 rfl (by kernel_rfl) (by kernel_rfl) (by kernel_rfl) (fun _ _ _ h => h) (by rfl) ?_ ?_; rotate_left
  · (intro x hx; go_simp; first | done | with_reducible rfl | (rw [if_pos (by omega)]; try with_reducible rfl))
  try simp only [Act.put, List.setIfInBounds_toArray, List.set_cons_zero, List.set_cons_succ]
  refine rg_take (v := ?_) 12 rfl (by kernel_rfl) (by kernel_rfl) (by kernel_rfl) (fun _ _ _ h => h) (by rfl) ?_ ?_; rotate_left
  · (intro x hx; go_simp; first | done | with_reducible rfl | (rw [if_pos (by omega)]; try with_reducible rfl))
  try simp only [Act.put, List.setIfInBounds_toArray, List.set_cons_zero, List.set_cons_succ]
  refine rg_take (v := ?_) 13 rfl (by kernel_rfl) (by kernel_rfl) (by kernel_rfl) (fun _ _ _ h => h) (by rfl) ?_ ?_; rotate_left
  · (intro x hx; go_simp; first | done | with_reducible rfl | (rw [if_pos (by omega)]; try with_reducible rfl))
  try simp only [Act.put, List.setIfInBounds_toArray, List.set_cons_zero, List.set_cons_succ]
  refine rg_done (by kernel_rfl) ?_
  go_wp2_with fail
  go_ret
  exact ⟨rfl, (Below.refl _ w).drew⟩

theorem u32_or_join (a b : Nat) (i : Nat) (ha : a % 2 ^ i = 0) (hb : b < 2 ^ i) (hab : a + b < 4294967296) : bits BinOp.or IntKind.u32 (a : Int) (b : Int) = (a : Int) + b := by
  rw [u32_or_nat a b (by omega) (by omega), nat_join i a b ha hb]
  omega

set_option maxRecDepth 100000 in
set_option maxHeartbeats 1000000 in
theorem at32_any (w : World) (A : Option Addr) (n c : Nat) (l : List UInt8) (k : Int) (x y z u : UInt8) (h : BS w w.heap.size A n c l) (hk : 0 ≤ k) (hn : k + 3 < n) (hmx : n ≤ 9223372036854775807)
    (hx : l[k.toNat]? = some x) (hy : l[k.toNat + 1]? = some y) (hz : l[k.toNat + 2]? = some z) (hu : l[k.toNat + 3]? = some u) :
    Calls Tryz.prog 18 #[.slice A n c, .int .i64 k] w (fun e w' => e = .returned (.int .u32 ((((x.toNat : Int) * 256 + y.toNat) * 256 + z.toNat) * 256 + u.toNat)) ∧ Below w.heap.size w w') := by
  have hx8 := x.toNat_lt
  have hy8 := y.toNat_lt
  have hz8 := z.toNat_lt
  have hu8 := u.toNat_lt
  have e6 : bits BinOp.or IntKind.u32 (((x.toNat : Int) * 256 + y.toNat) * 65536) ((z.toNat : Int) * 256 + u.toNat) = (((x.toNat : Int) * 256 + y.toNat) * 256 + z.toNat) * 256 + u.toNat := by
    have := u32_or_join ((x.toNat * 256 + y.toNat) * 65536) (z.toNat * 256 + u.toNat) 16 (by omega) (by omega) (by omega)
    have e1 : (((x.toNat * 256 + y.toNat) * 65536 : Nat) : Int) = ((x.toNat : Int) * 256 + y.toNat) * 65536 := by omega
    have e2 : ((z.toNat * 256 + u.toNat : Nat) : Int) = (z.toNat : Int) * 256 + u.toNat := by omega
    rw [e1, e2] at this
    rw [this]
    omega
  have HX := Lib.hid hx
  have HY := Lib.hid hy
  have HZ := Lib.hid hz
  have HU := Lib.hid hu
  clear hx hy hz hu
  have e2 : (k + 2).toNat = k.toNat + 2 := by omega
  have E2 := Lib.hid e2
  clear e2
  go_enter Tryz.func18, Tryz.ntmps18
  go_wp2_with fail
  refine (at16_any w A n c l k x y h hk (by omega) hmx HX.out HY.out).mono ?_
  rintro e w1 ⟨rfl, hb1⟩
  go_wp2_with fail
  refine (at16_any w1 A n c l (k + 2) z u ((h.below hb1).more hb1.size) (by omega) (by omega) hmx (by rw [E2.out]; exact HZ.out) (by rw [E2.out]; exact HU.out)).mono ?_
  rintro e w2 ⟨rfl, hb2⟩
  go_wp2_with fail
  go_ret
  exact ⟨rfl, hb1.trans (hb2.mono hb1.size)⟩
end Go.Proofs.YtccbdaffjkdpgaaGreatDoor
