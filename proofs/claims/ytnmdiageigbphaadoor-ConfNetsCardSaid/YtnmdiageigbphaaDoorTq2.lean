/-
  The text of a device's address; the reading of a net (package addr).
-/
import Derived.Test.YtnmdiageigbphaaDoorKq12
import Derived.Test.YtnmdiageigbphaaDoorItoa
import Derived.Test.YtnmdiageigbphaaDoorKd1
import Derived.Lib.AppendIntMem
import Derived.Lib.ItoaLen
namespace Go.Proofs.YtnmdiageigbphaaDoor
section
open Go.RowKit

def powIs (w : World) : Prop := Lib.TabIs Tryd.prog w "internal/strconv.uint64pow10" .u64 Lib.pow10Tab
theorem globPow : Tryd.prog.globalNamed "internal/strconv.uint64pow10" = some 1 := by kernel_rfl
theorem powIs.below {w w' : World} (h : powIs w) (hb : Below w.heap.size w w') : powIs w' := by
  unfold powIs Lib.TabIs World.var? at h ⊢
  rw [globPow] at h ⊢
  rw [Option.bind_some] at h ⊢
  have h0 : 1 < w.heap.size := by
    rcases Nat.lt_or_ge 1 w.heap.size with h0 | h0
    · exact h0
    · rw [Array.getElem?_eq_none h0] at h
      simp at h
  rw [hb.block 1 h0]
  exact h
theorem powIs.lt {w : World} (h : powIs w) : 1 < w.heap.size := by
  unfold powIs Lib.TabIs World.var? at h
  rw [globPow, Option.bind_some] at h
  rcases Nat.lt_or_ge 1 w.heap.size with h0 | h0
  · exact h0
  · rw [Array.getElem?_eq_none h0] at h
    simp at h
theorem itoa_any (w : World) (h : powIs w) (n : Nat) (hn : n ≤ 9000000000000000000) : Calls Tryd.prog 24 #[.int .i64 n] w (fun e w' => e = .returned (.string (str (decB n))) ∧ Below w.heap.size w w') := by
  refine (Tryd.strconv_Itoa (n : Int) (by omega) (by omega) w h).mono ?_
  rintro e w' ⟨rfl, k, os, rfl⟩
  exact ⟨rfl, Lib.below_grow _ w (Nat.le_refl _) k os⟩
theorem str_add (w : World) (x y : List UInt8) (h : x.length + y.length ≤ 1000) : (Op.stringOp .add (str x) (str y)).run Tryd.prog w = .ok (.string (str (x ++ y))) w := by
  have h1 := run_string_add_sum (P := Tryd.prog) (w := w) (str x) (str y) (by rw [str_size, str_size]; omega)
  rw [str_append] at h1
  exact h1
def textA (a : Ad4) : List UInt8 := decB a.a.toNat ++ 46 :: (decB a.b.toNat ++ 46 :: (decB a.c.toNat ++ 46 :: decB a.d.toNat))
set_option maxRecDepth 100000 in
set_option maxHeartbeats 1000000 in
theorem text_any (w : World) (hp : powIs w) (a : Ad4) : Calls Tryd.prog 13 #[adV a] w (fun e w' => e = .returned (.string (str (textA a))) ∧ Below w.heap.size w w') := by
  obtain ⟨a0, b0, c0, d0⟩ := a
  have h0 := a0.toNat_lt; have h1 := b0.toNat_lt; have h2 := c0.toNat_lt; have h3 := d0.toNat_lt
  show Calls _ _ #[.agg #[.int .u8 (a0.toNat : Int), .int .u8 (b0.toNat : Int), .int .u8 (c0.toNat : Int), .int .u8 (d0.toNat : Int)]] w (fun e w' => e = .returned (.string (str (decB a0.toNat ++ 46 :: (decB b0.toNat ++ 46 :: (decB c0.toNat ++ 46 :: decB d0.toNat))))) ∧ Below w.heap.size w w')
  generalize a0.toNat = x0 at *
  generalize b0.toNat = x1 at *
  generalize c0.toNat = x2 at *
  generalize d0.toNat = x3 at *
  obtain ⟨i0, i1, i2, i3⟩ := idx4 x0 x1 x2 x3
  have l0 := decB_le x0; have l1 := decB_le x1; have l2 := decB_le x2; have l3 := decB_le x3
  have E0 := Lib.hid (rfl : decB x0 = decB x0); have E1 := Lib.hid (rfl : decB x1 = decB x1); have E2 := Lib.hid (rfl : decB x2 = decB x2); have E3 := Lib.hid (rfl : decB x3 = decB x3)
  obtain ⟨A0, a0⟩ : ∃ l, decB x0 = l := ⟨_, rfl⟩
  obtain ⟨A1, a1⟩ : ∃ l, decB x1 = l := ⟨_, rfl⟩
  obtain ⟨A2, a2⟩ : ∃ l, decB x2 = l := ⟨_, rfl⟩
  obtain ⟨A3, a3⟩ : ∃ l, decB x3 = l := ⟨_, rfl⟩
  rw [a0] at l0; rw [a1] at l1; rw [a2] at l2; rw [a3] at l3
  rw [a0, a1, a2, a3]
  have H0 := Lib.hid a0; have H1 := Lib.hid a1; have H2 := Lib.hid a2; have H3 := Lib.hid a3
  clear a0 a1 a2 a3 E0 E1 E2 E3
  have s0 : ∀ w, (Op.stringOp .add ⟨#[]⟩ (str A0)).run Tryd.prog w = .ok (.string (str A0)) w := fun w => str_add w [] A0 (by simp; omega)
  have d0 : ∀ w, (Op.stringOp .add (str A0) ⟨#[46]⟩).run Tryd.prog w = .ok (.string (str (A0 ++ [46]))) w := fun w => str_add w A0 [46] (by simp; omega)
  obtain ⟨B1, b1⟩ : ∃ l, A0 ++ [46] = l := ⟨_, rfl⟩
  have n1 := congrArg List.length b1
  simp at n1
  rw [b1] at d0
  have s1 : ∀ w, (Op.stringOp .add (str B1) (str A1)).run Tryd.prog w = .ok (.string (str (B1 ++ A1))) w := fun w => str_add w B1 A1 (by omega)
  obtain ⟨C1, c1⟩ : ∃ l, B1 ++ A1 = l := ⟨_, rfl⟩
  have m1 := congrArg List.length c1
  simp at m1
  rw [c1] at s1
  have d1 : ∀ w, (Op.stringOp .add (str C1) ⟨#[46]⟩).run Tryd.prog w = .ok (.string (str (C1 ++ [46]))) w := fun w => str_add w C1 [46] (by simp; omega)
  obtain ⟨B2, b2⟩ : ∃ l, C1 ++ [46] = l := ⟨_, rfl⟩
  have n2 := congrArg List.length b2
  simp at n2
  rw [b2] at d1
  have s2 : ∀ w, (Op.stringOp .add (str B2) (str A2)).run Tryd.prog w = .ok (.string (str (B2 ++ A2))) w := fun w => str_add w B2 A2 (by omega)
  obtain ⟨C2, c2⟩ : ∃ l, B2 ++ A2 = l := ⟨_, rfl⟩
  have m2 := congrArg List.length c2
  simp at m2
  rw [c2] at s2
  have d2 : ∀ w, (Op.stringOp .add (str C2) ⟨#[46]⟩).run Tryd.prog w = .ok (.string (str (C2 ++ [46]))) w := fun w => str_add w C2 [46] (by simp; omega)
  obtain ⟨B3, b3⟩ : ∃ l, C2 ++ [46] = l := ⟨_, rfl⟩
  have n3 := congrArg List.length b3
  simp at n3
  rw [b3] at d2
  have s3 : ∀ w, (Op.stringOp .add (str B3) (str A3)).run Tryd.prog w = .ok (.string (str (B3 ++ A3))) w := fun w => str_add w B3 A3 (by omega)
  obtain ⟨C3, c3⟩ : ∃ l, B3 ++ A3 = l := ⟨_, rfl⟩
  rw [c3] at s3
  have HC := Lib.hid (show A0 ++ 46 :: (A1 ++ 46 :: (A2 ++ 46 :: A3)) = C3 by rw [← c3, ← b3, ← c2, ← b2, ← c1, ← b1]; simp)
  clear b1 n1 c1 m1 b2 n2 c2 m2 b3 n3 c3 l0 l1 l2 l3
  have q1 : Below w.heap.size w (w.alloc (.cells #[.int .u8 (x0 : Int), .int .u8 (x1 : Int), .int .u8 (x2 : Int), .int .u8 (x3 : Int)] 26)) := (Below.refl _ w).alloc (Nat.le_refl _) _
  go_enter Tryd.func13, Tryd.ntmps13
  go_wp2_with fail
  generalize w.alloc (.cells #[.int .u8 (x0 : Int), .int .u8 (x1 : Int), .int .u8 (x2 : Int), .int .u8 (x3 : Int)] 26) = w1 at q1 ⊢
  refine wp_loop_rounds 5 ?_
  rw [rounds_succ]
  go_wp2_with fail
  refine (itoa_any _ (hp.below q1) x0 (by omega)).mono ?_
  rw [H0.out]
  rintro e w2 ⟨rfl, q2⟩
  replace q2 := q1.trans (q2.mono q1.size)
  go_wp2_with fail
  rw [rounds_succ]
  go_wp2_with fail
  refine (itoa_any _ (hp.below q2) x1 (by omega)).mono ?_
  rw [H1.out]
  rintro e w3 ⟨rfl, q3⟩
  replace q3 := q2.trans (q3.mono q2.size)
  go_wp2_with fail
  rw [rounds_succ]
  go_wp2_with fail
  refine (itoa_any _ (hp.below q3) x2 (by omega)).mono ?_
  rw [H2.out]
  rintro e w4 ⟨rfl, q4⟩
  replace q4 := q3.trans (q4.mono q3.size)
  go_wp2_with fail
  rw [rounds_succ]
  go_wp2_with fail
  refine (itoa_any _ (hp.below q4) x3 (by omega)).mono ?_
  rw [H3.out]
  rintro e w5 ⟨rfl, q5⟩
  replace q5 := q4.trans (q5.mono q4.size)
  go_wp2_with fail
  rw [rounds_succ]
  go_wp2_with fail
  go_ret
  exact ⟨by rw [HC.out]; rfl, q5⟩

/-- The text of a net. -/
def textN (a : Ad4) (b : Nat) : List UInt8 := textA a ++ 47 :: decB b
theorem textA_le (a : Ad4) : (textA a).length ≤ 90 := by
  have h0 := a.a.toNat_lt; have h1 := a.b.toNat_lt; have h2 := a.c.toNat_lt; have h3 := a.d.toNat_lt
  have l0 := decB_le a.a.toNat; have l1 := decB_le a.b.toNat; have l2 := decB_le a.c.toNat; have l3 := decB_le a.d.toNat
  simp [textA]
  omega
/-- A device's address as text. -/
def hexC (n : Nat) : UInt8 := ([48, 49, 50, 51, 52, 53, 54, 55, 56, 57, 97, 98, 99, 100, 101, 102] : List UInt8).getD n 0
def hex2 (x : Nat) : List UInt8 := [hexC (x / 16), hexC (x % 16)]
def textM (m : Mac6) : List UInt8 := hex2 m.a.toNat ++ 58 :: (hex2 m.b.toNat ++ 58 :: (hex2 m.c.toNat ++ 58 :: (hex2 m.d.toNat ++ 58 :: (hex2 m.e.toNat ++ 58 :: hex2 m.f.toNat))))
end
section
open Go.RowKit

/-- What is written behind j bytes. -/
def macPre (bs : List UInt8) : Nat → List UInt8
  | 0 => []
  | j + 1 => macPre bs j ++ (if 0 < j then [58] else []) ++ hex2 (bs.getD j 0).toNat
theorem macPre_len (bs : List UInt8) : ∀ j, (macPre bs j).length ≤ 3 * j
  | 0 => by simp [macPre]
  | j + 1 => by
    have := macPre_len bs j
    rw [macPre]
    split <;> simp [hex2] <;> omega
theorem macPre_end (m : Mac6) : macPre m.bytes 6 = textM m := by simp [macPre, textM, Mac6.bytes]
theorem hexAt (n : Nat) (h : n < 16) : ∀ pf, (⟨#[48, 49, 50, 51, 52, 53, 54, 55, 56, 57, 97, 98, 99, 100, 101, 102]⟩ : ByteArray)[n]'pf = hexC n := by
  rcases (show n = 0 ∨ n = 1 ∨ n = 2 ∨ n = 3 ∨ n = 4 ∨ n = 5 ∨ n = 6 ∨ n = 7 ∨ n = 8 ∨ n = 9 ∨ n = 10 ∨ n = 11 ∨ n = 12 ∨ n = 13 ∨ n = 14 ∨ n = 15 by omega) with rfl | rfl | rfl | rfl | rfl | rfl | rfl | rfl | rfl | rfl | rfl | rfl | rfl | rfl | rfl | rfl <;> intro pf <;> rfl
theorem hexCells (y : Nat) (hy : y < 256) : ∀ p1 p2, #[Value.int .u8 (((⟨#[48, 49, 50, 51, 52, 53, 54, 55, 56, 57, 97, 98, 99, 100, 101, 102]⟩ : ByteArray)[((y : Int) / 16).toNat]'p1).toNat : Int), .int .u8 (((⟨#[48, 49, 50, 51, 52, 53, 54, 55, 56, 57, 97, 98, 99, 100, 101, 102]⟩ : ByteArray)[((y : Int) % 16).toNat]'p2).toNat : Int)] = (bv (hex2 y)).toArray := by
  intro p1 p2
  rw [hexAt _ (by omega), hexAt _ (by omega), show ((y : Int) / 16).toNat = y / 16 by omega, show ((y : Int) % 16).toNat = y % 16 by omega]
  rfl
theorem idx6 (m : Mac6) (j : Nat) (h : j < 6) (w : World) : (Instr.index 30 (macV m) (.int .i64 j)).run Tryd.prog w = .ok (.int .u8 ((m.bytes.getD j 0).toNat : Int)) w := by
  obtain ⟨a, b, c, d, e, f⟩ := m
  rcases (show j = 0 ∨ j = 1 ∨ j = 2 ∨ j = 3 ∨ j = 4 ∨ j = 5 by omega) with rfl | rfl | rfl | rfl | rfl | rfl <;> kernel_rfl
theorem and15 (x : Nat) (hx : x < 256) : bits BinOp.and IntKind.u8 (x : Int) 15 = ((x % 16 : Nat) : Int) := by
  have h := u8_and_nat x 15 hx (by decide)
  rw [show (15 : Nat) = 2 ^ 4 - 1 from rfl, Nat.and_two_pow_sub_one_eq_mod] at h
  exact h

def MRel (w : World) (m : Mac6) (v iv : Value) (wr : World) : Prop :=
  ∃ (A : Option Addr) (n c j : Nat), v = .slice A n c ∧ iv = .int .i64 j ∧ j ≤ 6 ∧ OB wr w.heap.size A n c (macPre m.bytes j) ∧ Below w.heap.size w wr
end
end Go.Proofs.YtnmdiageigbphaaDoor
