/-
  Contract of ether.Get.
-/
import Derived.Test.YtjmeehmbccilkaaEther2
namespace Go.Proofs.Ytjmeehmbccilkaa
open Go.RowKit

def zero6 : Mac6 := ⟨0, 0, 0, 0, 0, 0⟩
abbrev frV (t f : Mac6) (k : Int) (A : Option Addr) (n c : Nat) : Value := .agg #[.int .u8 (t.a.toNat : Int), .int .u8 (t.b.toNat : Int), .int .u8 (t.c.toNat : Int), .int .u8 (t.d.toNat : Int), .int .u8 (t.e.toNat : Int), .int .u8 (t.f.toNat : Int),
  .int .u8 (f.a.toNat : Int), .int .u8 (f.b.toNat : Int), .int .u8 (f.c.toNat : Int), .int .u8 (f.d.toNat : Int), .int .u8 (f.e.toNat : Int), .int .u8 (f.f.toNat : Int), .int .i64 k, .slice A n c]
/-- A frame as data. -/
structure Fr where
  dst : Mac6
  frm : Mac6
  typ : Int
  body : List UInt8
def Fr.zero : Fr := ⟨zero6, zero6, 0, []⟩
/-- What the bytes are as a frame, and the error. -/
def getFr (b : List UInt8) : Fr × Int :=
  if 1514 < b.length then (Fr.zero, 2) else if b.length < 14 then (Fr.zero, 3) else
    (⟨macOf (b.take 6), macOf ((b.drop 6).take 6), beN ((b.drop 12).take 2), b.drop 14⟩, 0)

def FrPost (w : World) (r : Fr × Int) (e : Ending) (w' : World) : Prop :=
  ∃ A n c, e = .returned (.tuple #[frV r.1.dst r.1.frm r.1.typ A n c, .int .i64 r.2]) ∧ OB w' w.heap.size A n c r.1.body ∧ Below w.heap.size w w'

theorem OB.nil_ (w : World) (H : Nat) : OB w H none 0 0 [] := ⟨rfl, World.ownsRow_nil _ _ _ _⟩

set_option maxRecDepth 100000 in
set_option maxHeartbeats 1000000 in
theorem get_long (w : World) (A : Option Addr) (n c : Nat) (l : List UInt8) (h : BS w w.heap.size A n c l) (hn : 1514 < n) (hmx : n ≤ 9223372036854775807) :
    Calls Try.prog 13 #[.slice A n c] w (FrPost w (getFr l)) := by
  have e1 : getFr l = (Fr.zero, 2) := by rw [getFr, if_pos (by have := h.1; omega)]
  rw [e1]
  clear e1 h
  go_enter Try.func13, Try.ntmps13
  go_wp2_with fail
  refine bodyPost_ret (v := .tuple #[frV zero6 zero6 0 none 0 0, .int .i64 2]) (by simp [results, Try.results13, go_sem, zero6]) rfl ?_
  exact ⟨none, 0, 0, rfl, OB.nil_ _ _, by go_grown⟩

set_option maxRecDepth 100000 in
set_option maxHeartbeats 1000000 in
theorem get_short (w : World) (A : Option Addr) (n c : Nat) (l : List UInt8) (h : BS w w.heap.size A n c l) (hn : n < 14) :
    Calls Try.prog 13 #[.slice A n c] w (FrPost w (getFr l)) := by
  have e1 : getFr l = (Fr.zero, 3) := by rw [getFr, if_neg (by have := h.1; omega), if_pos (by have := h.1; omega)]
  rw [e1]
  clear e1 h
  go_enter Try.func13, Try.ntmps13
  go_wp2_with fail
  refine bodyPost_ret (v := .tuple #[frV zero6 zero6 0 none 0 0, .int .i64 3]) (by simp [results, Try.results13, go_sem, zero6]) rfl ?_
  exact ⟨none, 0, 0, rfl, OB.nil_ _ _, by go_grown⟩

set_option maxRecDepth 100000 in
set_option maxHeartbeats 1000000 in
theorem get_ok (w : World) (A : Option Addr) (n c : Nat) (l : List UInt8) (h : BS w w.heap.size A n c l) (hn : 14 ≤ n) (hn2 : n ≤ 1514) :
    Calls Try.prog 13 #[.slice A n c] w (FrPost w (getFr l)) := by
  have hl := h.1
  have e1 : getFr l = (⟨macOf (l.take 6), macOf ((l.drop 6).take 6), beN ((l.drop 12).take 2), l.drop 14⟩, 0) := by rw [getFr, if_neg (by omega), if_neg (by omega)]
  rw [e1]
  have t1 : rdTake l 6 = l.take 6 := by rw [rdTake, if_pos (by omega)]; rfl
  have t2 : rdDrop l 6 = l.drop 6 := by rw [rdDrop, if_pos (by omega)]; rfl
  have t3 : rdSh l 6 false = false := by rw [rdSh, if_pos (by omega)]
  have t4 : rdTake (l.drop 6) 6 = (l.drop 6).take 6 := by rw [rdTake, if_pos (by rw [List.length_drop]; omega)]; rfl
  have t5 : rdDrop (l.drop 6) 6 = l.drop 12 := by rw [rdDrop, if_pos (by rw [List.length_drop]; omega), List.drop_drop]; rfl
  have t6 : rdSh (l.drop 6) 6 false = false := by rw [rdSh, if_pos (by rw [List.length_drop]; omega)]
  have t7 : rdTake (l.drop 12) 2 = (l.drop 12).take 2 := by rw [rdTake, if_pos (by rw [List.length_drop]; omega)]; rfl
  have t8 : rdDrop (l.drop 12) 2 = l.drop 14 := by rw [rdDrop, if_pos (by rw [List.length_drop]; omega), List.drop_drop]; rfl
  have t9 : rdSh (l.drop 12) 2 false = false := by rw [rdSh, if_pos (by rw [List.length_drop]; omega)]
  have hll : l.length ≤ 1514 := by omega
  have T1 := Lib.hid t1
  have T2 := Lib.hid t2
  have T3 := Lib.hid t3
  have T4 := Lib.hid t4
  have T5 := Lib.hid t5
  have T6 := Lib.hid t6
  have T7 := Lib.hid t7
  have T8 := Lib.hid t8
  have T9 := Lib.hid t9
  clear e1 t1 t2 t3 t4 t5 t6 t7 t8 t9 hl
  go_enter Try.func13, Try.ntmps13
  go_wp2_with fail
  refine (read_any _ A n c l ((h.alloc (Nat.le_refl _) _).more (by simp)) (by omega)).mono ?_
  rintro e w1 ⟨g, rfl, hg, hr1, hb1⟩
  go_wp2_with fail
  refine (rmac_any w1 g l false hr1 (by omega)).mono ?_
  rintro e w2 ⟨rfl, hr2, hg2⟩
  rw [T1.out]
  rw [T2.out, T3.out] at hr2
  go_wp2_with fail
  refine (rmac_any w2 g _ false hr2 (by rw [List.length_drop]; omega)).mono ?_
  rintro e w3 ⟨rfl, hr3, hg3⟩
  rw [T4.out]
  rw [T5.out, T6.out] at hr3
  go_wp2_with fail
  refine (ru16_any w3 g _ false hr3 (by rw [List.length_drop]; omega)).mono ?_
  rintro e w4 ⟨rfl, hr4, hg4⟩
  rw [T7.out]
  rw [T8.out, T9.out] at hr4
  have hbd : (l.drop 14).length ≤ 1514 := by rw [List.length_drop]; omega
  generalize l.drop 14 = bd at *
  generalize macOf (l.take 6) = m1 at *
  generalize macOf ((l.drop 6).take 6) = m2 at *
  generalize beN ((l.drop 12).take 2) = k at *
  have hgl := hr4.lt
  have hgw : w.heap.size < g := by have := hb1.size; simp at hg; omega
  have hres4 : w4.heap[w.heap.size]? = some (.cells #[.int .u8 0, .int .u8 0, .int .u8 0, .int .u8 0, .int .u8 0, .int .u8 0, .int .u8 0, .int .u8 0, .int .u8 0, .int .u8 0, .int .u8 0, .int .u8 0, .int .i64 0, .slice none 0 0] 27 (0, 0)) := by
    have z1 := hb1.size
    have z2 := hg2.size
    have z3 := hg3.size
    have z4 := hg4.size
    simp at z1
    rw [hg4.block _ (by omega) (by intro e; injection e with e; omega), hg3.block _ (by omega) (by intro e; injection e with e; omega), hg2.block _ (by omega) (by intro e; injection e with e; omega), hb1.block _ (by simp)]
    exact heap_alloc_at rfl
  have HR := Lib.hid hres4
  clear hres4
  go_wp2_with fail
  refine (left_any _ g _ _ (hr4.alloc _)).mono ?_
  rintro e w5 ⟨rfl, rfl⟩
  go_wp2_with fail
  refine (bytes_any _ g _ _ false (hr4.alloc _) (by omega)).mono ?_
  rintro e w6 ⟨A6, n6, c6, rfl, ho6, hr6, hg6⟩
  have u1 : rdTake bd (bd.length : Nat) = bd := by rw [rdTake, if_pos (by omega)]; simp
  rw [u1] at ho6
  have hf6 := (hg6.block w4.heap.size (by simp) (by intro e; injection e with e; omega)).trans (heap_alloc_at rfl)
  have hr6' := (hg6.block w.heap.size (by have := heap_lt HR.out; simp; omega) (by intro e; injection e with e; omega)).trans (heap_alloc_of HR.out)
  obtain ⟨k1, f1⟩ := cells_of hf6
  obtain ⟨k2, f2⟩ := cells_of hr6'
  have hne : w.heap.size ≠ w4.heap.size := by have := heap_lt HR.out; omega
  have G6 := Lib.hid hg6
  clear hg6 hf6 hr6' u1
  go_wp2_with fail
  refine bodyPost_ret (v := .tuple #[frV m1 m2 k A6 n6 c6, .int .i64 0]) (by simp [results, Try.results13, go_sem, k2]) rfl ?_
  have z1 := hb1.size
  have z2 := hg2.size
  have z3 := hg3.size
  have z4 := hg4.size
  simp at z1
  have q4 : Below w.heap.size w w4 := below_grown (below_grown (below_grown (((Below.refl _ w).alloc (Nat.le_refl _) _).trans (hb1.mono (by simp))) hg2 (by omega) (by omega)) hg3 (by omega) (by omega)) hg4 (by omega) (by omega)
  have q6 : Below w.heap.size w w6 := below_grown (q4.alloc (by omega) _) G6.out (by simp; omega) (by omega)
  refine ⟨A6, n6, c6, rfl, ?_, ?_⟩
  · have ho7 := ho6.lower (H' := w4.heap.size + 1) (by simp)
    have hlow : w.heap.size ≤ w4.heap.size + 1 := by omega
    refine OB.lower (H := w4.heap.size + 1) ?_ hlow
    repeat (refine OB.setLow ?_ (by simp; try omega) _)
    exact ho7
  · refine q6.trans ?_
    go_grown
end Go.Proofs.Ytjmeehmbccilkaa
