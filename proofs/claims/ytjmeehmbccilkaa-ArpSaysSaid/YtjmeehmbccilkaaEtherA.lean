/-
  awake of package gatehouselaw4: the example that each statement asks first: it answers true.
-/
import Derived.Test.YtjmeehmbccilkaaRef4c
import Derived.Lib.SlBytesConst
namespace Go.Proofs.Ytjmeehmbccilkaa
open Go.RowKit

theorem get_any (w : World) (A : Option Addr) (n c : Nat) (l : List UInt8) (h : BS w w.heap.size A n c l) :
    Calls Try.prog 13 #[.slice A n c] w (FrPost w (getFr l)) := by
  have hmx : n ≤ 9223372036854775807 := by have h1 := h.2.1; have h2 := h.2.2.1; unfold maxLen at h2; omega
  by_cases h1 : 1514 < n
  · exact get_long w A n c l h h1 hmx
  · by_cases h2 : n < 14
    · exact get_short w A n c l h h2
    · exact get_ok w A n c l h (by omega) (by omega)
theorem rget_any (w : World) (A : Option Addr) (n c : Nat) (l : List UInt8) (h : BS w w.heap.size A n c l) :
    Calls Try.prog 17 #[.slice A n c] w (FrPost w (getFr l)) := by
  have hmx : n ≤ 9223372036854775807 := by have h1 := h.2.1; have h2 := h.2.2.1; unfold maxLen at h2; omega
  by_cases h1 : 1514 < n
  · exact rget_long w A n c l h h1 hmx
  · by_cases h2 : n < 14
    · exact rget_short w A n c l h h2
    · exact rget_ok w A n c l h (by omega) (by omega)
theorem put_any (w : World) (t f : Mac6) (k : Int) (A : Option Addr) (n c : Nat) (l : List UInt8) (h : BS w w.heap.size A n c l) :
    Calls Try.prog 14 #[frV t f k A n c] w (BytesErrPost w (putFr ⟨t, f, k, l⟩)) := by
  have hmx : n ≤ 9223372036854775807 := by have h1 := h.2.1; have h2 := h.2.2.1; unfold maxLen at h2; omega
  by_cases h1 : 1500 < n
  · exact put_long w t f k A n c l h h1 hmx
  · by_cases h2 : k < 0 ∨ 65535 < k
    · exact put_arg w t f k A n c l h (by omega) h2
    · exact put_ok w t f k A n c l h (by omega) (by omega) (by omega)
theorem rput_any (w : World) (t f : Mac6) (k : Int) (A : Option Addr) (n c : Nat) (l : List UInt8) (h : BS w w.heap.size A n c l) :
    Calls Try.prog 18 #[frV t f k A n c] w (BytesErrPost w (putFr ⟨t, f, k, l⟩)) := by
  have hmx : n ≤ 9223372036854775807 := by have h1 := h.2.1; have h2 := h.2.2.1; unfold maxLen at h2; omega
  by_cases h1 : 1500 < n
  · exact rput_long w t f k A n c l h h1 hmx
  · by_cases h2 : k < 0 ∨ 65535 < k
    · exact rput_arg w t f k A n c l h (by omega) h2
    · exact rput_ok w t f k A n c l h (by omega) (by omega) (by omega)

theorem get_put (t f : Mac6) (k : Int) (l : List UInt8) (hl : l.length ≤ 1500) (h0 : 0 ≤ k) (h1 : k ≤ 65535) :
    getFr (t.bytes ++ f.bytes ++ b16 k ++ l) = (⟨t, f, k, l⟩, 0) := by
  have e1 : (t.bytes ++ f.bytes ++ b16 k ++ l).length = 14 + l.length := by simp [Mac6.bytes, b16]; omega
  have e2 := beN_b16 k
  rw [getFr, e1, if_neg (by omega), if_neg (by omega)]
  have e3 : (t.bytes ++ f.bytes ++ b16 k ++ l).take 6 = t.bytes := by simp [Mac6.bytes]
  have e4 : ((t.bytes ++ f.bytes ++ b16 k ++ l).drop 6).take 6 = f.bytes := by simp [Mac6.bytes]
  have e5 : ((t.bytes ++ f.bytes ++ b16 k ++ l).drop 12).take 2 = b16 k := by simp [Mac6.bytes, b16]
  have e6 : (t.bytes ++ f.bytes ++ b16 k ++ l).drop 14 = l := by simp [Mac6.bytes, b16]
  rw [e3, e4, e5, e6, e2]
  have e7 : k % 65536 = k := by omega
  rw [e7]
  cases t; cases f
  simp [macOf, Mac6.bytes]

abbrev frC (t f : Mac6) (k : Int) (A : Option Addr) (n c : Nat) : Array Value := #[.int .u8 (t.a.toNat : Int), .int .u8 (t.b.toNat : Int), .int .u8 (t.c.toNat : Int), .int .u8 (t.d.toNat : Int), .int .u8 (t.e.toNat : Int), .int .u8 (t.f.toNat : Int),
  .int .u8 (f.a.toNat : Int), .int .u8 (f.b.toNat : Int), .int .u8 (f.c.toNat : Int), .int .u8 (f.d.toNat : Int), .int .u8 (f.e.toNat : Int), .int .u8 (f.f.toNat : Int), .int .i64 k, .slice A n c]
def m1 : Mac6 := ⟨1, 0, 0, 0, 0, 0⟩
def m2 : Mac6 := ⟨2, 0, 0, 0, 0, 0⟩

set_option maxRecDepth 100000 in
set_option maxHeartbeats 2000000 in
theorem awake4_any (w : World) : Calls Try.prog 12 #[] w (TruePost w) := by
  have kc := fun (w : World) (C : Array Value) (n c : Nat) => Lib.run_convert_bytes_const (P := Try.prog) w 25 5 C n c Try.underlying25 Try.underlying5
  go_enter Try.func12, Try.ntmps12
  go_wp2_with fail
  refine (put_any _ m1 m2 2048 _ 1 1 [120] ?hbs).mono ?_
  case hbs => exact (BS.block (t := 5) [120] (heap_alloc_of (heap_alloc_at rfl)) rfl (by simp [maxLen]))
  rintro e w1 ⟨A1, n1, c1, rfl, ho1, hb1⟩
  have hF := (hb1.block (w.heap.size + 1) (by simp)).trans (heap_alloc_at (by simp))
  have hX := (hb1.block w.heap.size (by simp; omega)).trans (heap_alloc_of (heap_alloc_at rfl))
  have z1 := hb1.size
  simp at z1
  have q1 : Below w.heap.size w w1 := (((Below.refl _ w).alloc (Nat.le_refl _) _).alloc (by simp) _).trans (hb1.mono (by simp; omega))
  rw [show putFr ⟨m1, m2, 2048, [120]⟩ = (m1.bytes ++ m2.bytes ++ b16 2048 ++ [120], 0) by decide +kernel] at ho1 ⊢
  go_wp2_with fail
  refine (get_any w1 A1 n1 c1 _ ho1.bs).mono ?_
  rw [get_put m1 m2 2048 [120] (by simp) (by omega) (by omega)]
  rintro e w2 ⟨A2, n2, c2, rfl, ho2, hb2⟩
  have hF2 := (hb2.block (w.heap.size + 1) (by omega)).trans hF
  have hX2 := (hb2.block w.heap.size (by omega)).trans hX
  have z2 := hb2.size
  have q2 := q1.trans (hb2.mono (by omega))
  have bx : BS w2 w2.heap.size (some ⟨w.heap.size, 0, none⟩) 1 1 [120] := BS.block [120] hX2 rfl (by simp [maxLen])
  have hg1 : bits BinOp.and IntKind.u8 1 1 = 1 := by decide
  have HF := Lib.hid hF2
  have HX := Lib.hid hX2
  clear hF hX hF2 hX2
  go_upto_region 4 with fail
  refine rg_begin_with (fun _ => False) (fun W => (∀ x, Ext (fun _ => False) W x → ∀ j, x.cell? ⟨w2.heap.size, j, none⟩ = (frC m1 m2 2048 A2 n2 c2)[j]?) ∧
    (∀ x, Ext (fun _ => False) W x → ∀ j, x.cell? ⟨w.heap.size + 1, j, none⟩ = (frC m1 m2 2048 (some ⟨w.heap.size, 0, none⟩) 1 1)[j]?))
    (by kernel_rfl) ⟨Ext.cells (heap_alloc_at rfl) (fun h => h), Ext.cells (heap_alloc_of HF.out) (fun h => h)⟩ ?_
  rintro ⟨C1, C2⟩
  refine rg_take (v := ?_) 0 rfl (by kernel_rfl) (by kernel_rfl) (by kernel_rfl) (fun _ _ _ h => h) (by rfl) ?_ ?_; rotate_left
  · (intro x hx; go_simp; first | done | with_reducible rfl | (rw [if_pos (by omega)]; try with_reducible rfl))
  try simp only [Act.put, List.setIfInBounds_toArray, List.set_cons_zero, List.set_cons_succ]
  refine rg_take (v := ?_) 1 rfl (by kernel_rfl) (by kernel_rfl) (by kernel_rfl) (fun _ _ _ h => h) (by rfl) ?_ ?_; rotate_left
  · (intro x hx; go_simp; first | done | with_reducible rfl | (rw [if_pos (by omega)]; try with_reducible rfl))
  try simp only [Act.put, List.setIfInBounds_toArray, List.set_cons_zero, List.set_cons_succ]
  refine rg_take (v := ?_) 2 rfl (by kernel_rfl) (by kernel_rfl) (by kernel_rfl) (fun _ _ _ h => h) (by rfl) ?_ ?_; rotate_left
  · (intro x hx; go_simp; first | done | with_reducible rfl | (rw [if_pos (by omega)]; try with_reducible rfl))
  try simp only [Act.put, List.setIfInBounds_toArray, List.set_cons_zero, List.set_cons_succ]
  refine rg_take (v := ?_) 3 rfl (by kernel_rfl) (by kernel_rfl) (by kernel_rfl) (fun _ _ _ h => h) (by rfl) ?_ ?_; rotate_left
  · (intro x hx; go_simp; first | done | with_reducible rfl | (rw [if_pos (by omega)]; try with_reducible rfl))
  try simp only [Act.put, List.setIfInBounds_toArray, List.set_cons_zero, List.set_cons_succ]
  refine rg_take (v := ?_) 4 rfl (by kernel_rfl) (by kernel_rfl) (by kernel_rfl) (fun _ _ _ h => h) (by rfl) ?_ ?_; rotate_left
  · (intro x hx; go_simp; first | done | with_reducible rfl | (rw [if_pos (by omega)]; try with_reducible rfl))
  try simp only [Act.put, List.setIfInBounds_toArray, List.set_cons_zero, List.set_cons_succ]
  refine rg_take (v := ?_) 5 rfl (by kernel_rfl) (by kernel_rfl) (by kernel_rfl) (fun _ _ _ h => h) (by rfl) ?_ ?_; rotate_left
  · (intro x hx; go_simp; first | done | with_reducible rfl | (rw [if_pos (by omega)]; try with_reducible rfl))
  try simp only [Act.put, List.setIfInBounds_toArray, List.set_cons_zero, List.set_cons_succ]
  refine rg_take (v := ?_) 6 rfl (by kernel_rfl) (by kernel_rfl) (by kernel_rfl) (fun _ _ _ h => h) (by rfl) ?_ ?_; rotate_left
  · (intro x hx; go_simp; first | done | with_reducible rfl | (rw [if_pos (by omega)]; try with_reducible rfl))
  try simp only [Act.put, List.setIfInBounds_toArray, List.set_cons_zero, List.set_cons_succ]
  refine rg_take (v := ?_) 7 rfl (by kernel_rfl) (by kernel_rfl) (by kernel_rfl) (fun _ _ _ h => h) (by rfl) ?_ ?_; rotate_left
  · (intro x hx; go_simp; first | done | with_reducible rfl | (rw [if_pos (by omega)]; try with_reducible rfl))
  try simp only [Act.put, List.setIfInBounds_toArray, List.set_cons_zero, List.set_cons_succ]
  refine rg_take (v := ?_) 8 rfl (by kernel_rfl) (by kernel_rfl) (by kernel_rfl) (fun _ _ _ h => h) (by rfl) ?_ ?_; rotate_left
  · (intro x hx; go_simp; first | done | with_reducible rfl | (rw [if_pos (by omega)]; try with_reducible rfl))
  try simp only [Act.put, List.setIfInBounds_toArray, List.set_cons_zero, List.set_cons_succ]
  refine rg_step 9 rfl (by kernel_rfl) (by rfl) (fun K hK => ?_)
  go_simp
  refine (own4_any _ m1 m2 2048 _ 1 1).mono ?_
  rintro e w3 ⟨rfl, hb3⟩
  have z3 := hb3.size
  simp at z3
  refine hK.out _ _ (Ext.below_all _ hb3) ?_
  clear hK K; try simp only [Act.put, List.setIfInBounds_toArray, List.set_cons_zero, List.set_cons_succ]
  refine rg_step 10 rfl (by kernel_rfl) (by rfl) (fun K hK => ?_)
  go_simp
  refine (same4_eq w3 m1 m2 2048 _ _ _ _ _ _ [120] ((((ho2.bs.alloc (Nat.le_refl _) _).drew).below (hb3.mono (by simp))).more (by omega)) ((((bx.alloc (Nat.le_refl _) _).drew).below (hb3.mono (by simp))).more (by omega))).mono ?_
  rintro e w4 ⟨rfl, hb4⟩
  refine hK.out _ _ (Ext.below_all _ hb4) ?_
  clear hK K; try simp only [Act.put, List.setIfInBounds_toArray, List.set_cons_zero, List.set_cons_succ]
  refine rg_take (v := ?_) 11 rfl (by kernel_rfl) (by kernel_rfl) (by kernel_rfl) (fun _ _ _ h => h) (by rfl) ?_ ?_; rotate_left
  · (intro x hx; go_simp; first | done | with_reducible rfl | (rw [if_pos (by omega)]; try with_reducible rfl))
  try simp only [Act.put, List.setIfInBounds_toArray, List.set_cons_zero, List.set_cons_succ]
  refine rg_take (v := ?_) 12 rfl (by kernel_rfl) (by kernel_rfl) (by kernel_rfl) (fun _ _ _ h => h) (by rfl) ?_ ?_; rotate_left
  · (intro x hx; go_simp; first | done | with_reducible rfl | (rw [if_pos (by omega)]; try with_reducible rfl))
  try simp only [Act.put, List.setIfInBounds_toArray, List.set_cons_zero, List.set_cons_succ]
  refine rg_take (v := ?_) 14 rfl (by kernel_rfl) (by kernel_rfl) (by kernel_rfl) (fun _ _ _ h => h) (by rfl) ?_ ?_; rotate_left
  · (intro x hx; go_simp; first | done | with_reducible rfl | (rw [if_pos (by omega)]; try with_reducible rfl))
  try simp only [Act.put, List.setIfInBounds_toArray, List.set_cons_zero, List.set_cons_succ]
  refine rg_step 13 rfl (by kernel_rfl) (by rfl) (fun K hK => ?_)
  go_simp
  refine (broad_any w4).mono ?_
  rintro e w5 ⟨rfl, hb5⟩
  have he : ∀ x, (binOp .eql 24 (macV broad6) (.agg #[.int .u8 255, .int .u8 255, .int .u8 255, .int .u8 255, .int .u8 255, .int .u8 255])).run Try.prog x = .ok (.bool true) x := fun x => by
    have := run_eql_mac x broad6 broad6
    rw [(meq_iff broad6 broad6).2 rfl] at this
    exact this
  refine hK.out _ _ (Ext.below_all _ hb5) ?_
  clear hK K; try simp only [Act.put, List.setIfInBounds_toArray, List.set_cons_zero, List.set_cons_succ]
  refine rg_take (v := ?_) 15 rfl (by kernel_rfl) (by kernel_rfl) (by kernel_rfl) (fun _ _ _ h => h) (by rfl) ?_ ?_; rotate_left
  · (intro x hx; go_simp; first | done | with_reducible rfl | (rw [if_pos (by omega)]; try with_reducible rfl))
  try simp only [Act.put, List.setIfInBounds_toArray, List.set_cons_zero, List.set_cons_succ]
  refine rg_take (v := ?_) 16 rfl (by kernel_rfl) (by kernel_rfl) (by kernel_rfl) (fun _ _ _ h => h) (by rfl) ?_ ?_; rotate_left
  · (intro x hx; go_simp; first | done | with_reducible rfl | (rw [if_pos (by omega)]; try with_reducible rfl))
  try simp only [Act.put, List.setIfInBounds_toArray, List.set_cons_zero, List.set_cons_succ]
  refine rg_take (v := ?_) 17 rfl (by kernel_rfl) (by kernel_rfl) (by kernel_rfl) (fun _ _ _ h => h) (by rfl) ?_ ?_; rotate_left
  · (intro x hx; go_simp; first | done | with_reducible rfl | (rw [if_pos (by omega)]; try with_reducible rfl))
  try simp only [Act.put, List.setIfInBounds_toArray, List.set_cons_zero, List.set_cons_succ]
  refine rg_take (v := ?_) 18 rfl (by kernel_rfl) (by kernel_rfl) (by kernel_rfl) (fun _ _ _ h => h) (by rfl) ?_ ?_; rotate_left
  · (intro x hx; go_simp; first | done | with_reducible rfl | (rw [if_pos (by omega)]; try with_reducible rfl))
  try simp only [Act.put, List.setIfInBounds_toArray, List.set_cons_zero, List.set_cons_succ]
  refine rg_step 19 rfl (by kernel_rfl) (by rfl) (fun K hK => ?_)
  go_simp
  refine (group_any w5 m1).mono ?_
  rintro e w6 ⟨rfl, hb6⟩
  rw [show grp m1 = true by decide]
  refine hK.out _ _ (Ext.below_all _ hb6) ?_
  clear hK K; try simp only [Act.put, List.setIfInBounds_toArray, List.set_cons_zero, List.set_cons_succ]
  refine rg_take (v := ?_) 20 rfl (by kernel_rfl) (by kernel_rfl) (by kernel_rfl) (fun _ _ _ h => h) (by rfl) ?_ ?_; rotate_left
  · (intro x hx; go_simp; first | done | with_reducible rfl | (rw [if_pos (by omega)]; try with_reducible rfl))
  try simp only [Act.put, List.setIfInBounds_toArray, List.set_cons_zero, List.set_cons_succ]
  refine rg_take (v := ?_) 21 rfl (by kernel_rfl) (by kernel_rfl) (by kernel_rfl) (fun _ _ _ h => h) (by rfl) ?_ ?_; rotate_left
  · (intro x hx; go_simp; first | done | with_reducible rfl | (rw [if_pos (by omega)]; try with_reducible rfl))
  try simp only [Act.put, List.setIfInBounds_toArray, List.set_cons_zero, List.set_cons_succ]
  refine rg_take (v := ?_) 22 rfl (by kernel_rfl) (by kernel_rfl) (by kernel_rfl) (fun _ _ _ h => h) (by rfl) ?_ ?_; rotate_left
  · (intro x hx; go_simp; first | done | with_reducible rfl | (rw [if_pos (by omega)]; try with_reducible rfl))
  try simp only [Act.put, List.setIfInBounds_toArray, List.set_cons_zero, List.set_cons_succ]
  refine rg_take (v := ?_) 23 rfl (by kernel_rfl) (by kernel_rfl) (by kernel_rfl) (fun _ _ _ h => h) (by rfl) ?_ ?_; rotate_left
  · (intro x hx; go_simp; first | done | with_reducible rfl | (rw [if_pos (by omega)]; try with_reducible rfl))
  try simp only [Act.put, List.setIfInBounds_toArray, List.set_cons_zero, List.set_cons_succ]
  refine rg_step 24 rfl (by kernel_rfl) (by rfl) (fun K hK => ?_)
  go_simp
  refine (mine_any w6 m2 m2).mono ?_
  rintro e w7 ⟨rfl, hb7⟩
  rw [show (meq m2 m2 || grp m2) = true by decide]
  refine hK.out _ _ (Ext.below_all _ hb7) ?_
  clear hK K; try simp only [Act.put, List.setIfInBounds_toArray, List.set_cons_zero, List.set_cons_succ]
  refine rg_take (v := ?_) 25 rfl (by kernel_rfl) (by kernel_rfl) (by kernel_rfl) (fun _ _ _ h => h) (by rfl) ?_ ?_; rotate_left
  · (intro x hx; go_simp; first | done | with_reducible rfl | (rw [if_pos (by omega)]; try with_reducible rfl))
  try simp only [Act.put, List.setIfInBounds_toArray, List.set_cons_zero, List.set_cons_succ]
  refine rg_take (v := ?_) 26 rfl (by kernel_rfl) (by kernel_rfl) (by kernel_rfl) (fun _ _ _ h => h) (by rfl) ?_ ?_; rotate_left
  · (intro x hx; go_simp; first | done | with_reducible rfl | (rw [if_pos (by omega)]; try with_reducible rfl))
  try simp only [Act.put, List.setIfInBounds_toArray, List.set_cons_zero, List.set_cons_succ]
  refine rg_done (by kernel_rfl) ?_
  go_wp2_with fail
  go_ret
  have y4 := hb4.size
  have y5 := hb5.size
  have y6 := hb6.size
  exact ⟨rfl, ((((((q2.alloc (by omega) _).drew).trans (hb3.mono (by simp; omega))).trans (hb4.mono (by omega))).trans (hb5.mono (by omega))).trans (hb6.mono (by omega))).trans (hb7.mono (by omega))⟩
end Go.Proofs.Ytjmeehmbccilkaa
