/-
  The text of a device's address; the reading of a net (package addr).
-/
import Derived.Test.YtnmdiageigbphaaGreatDoorKq12
import Derived.Test.YtnmdiageigbphaaGreatDoorItoa
import Derived.Test.YtnmdiageigbphaaGreatDoorKd1
import Derived.Lib.AppendIntMem
import Derived.Lib.ItoaLen
namespace Go.Proofs.YtnmdiageigbphaaGreatDoor
section
open Go.RowKit

def powIs (w : World) : Prop := Lib.TabIs Tryz.prog w "internal/strconv.uint64pow10" .u64 Lib.pow10Tab
theorem globPow : Tryz.prog.globalNamed "internal/strconv.uint64pow10" = some 1 := by kernel_rfl
theorem powIs.below {w w' : World} (h : powIs w) (hb : Below w.heap.size w w') : powIs w' := by
  unfold powIs Lib.TabIs World.var? at h ⊢
  rw [globPow] at h ⊢
  rw [Option.bind_some] at h ⊢
  have h0 : 1 < w.heap.size := by
    rcases Nat.lt_or_ge 1 w.heap.size with h0 | h0
    · exact h0
    · rw [Array.getElem?_eq_none h0] at h
      simp at h
  rw [hb.block 1 h0]
  exact h
theorem powIs.lt {w : World} (h : powIs w) : 1 < w.heap.size := by
  unfold powIs Lib.TabIs World.var? at h
  rw [globPow, Option.bind_some] at h
  rcases Nat.lt_or_ge 1 w.heap.size with h0 | h0
  · exact h0
  · rw [Array.getElem?_eq_none h0] at h
    simp at h
theorem itoa_any (w : World) (h : powIs w) (n : Nat) (hn : n ≤ 9000000000000000000) : Calls Tryz.prog 36 #[.int .i64 n] w (fun e w' => e = .returned (.string (str (decB n))) ∧ Below w.heap.size w w') := by
  refine (Tryz.strconv_Itoa (n : Int) (by omega) (by omega) w h).mono ?_
  rintro e w' ⟨rfl, k, os, rfl⟩
  exact ⟨rfl, Lib.below_grow _ w (Nat.le_refl _) k os⟩
theorem str_add (w : World) (x y : List UInt8) (h : x.length + y.length ≤ 1000) : (Op.stringOp .add (str x) (str y)).run Tryz.prog w = .ok (.string (str (x ++ y))) w := by
  have h1 := run_string_add_sum (P := Tryz.prog) (w := w) (str x) (str y) (by rw [str_size, str_size]; omega)
  rw [str_append] at h1
  exact h1
def textA (a : Ad4) : List UInt8 := decB a.a.toNat ++ 46 :: (decB a.b.toNat ++ 46 :: (decB a.c.toNat ++ 46 :: decB a.d.toNat))
set_option maxRecDepth 100000 in
set_option maxHeartbeats 1000000 in
theorem text_any (w : World) (hp : powIs w) (a : Ad4) : Calls Tryz.prog 35 #[adV a] w (fun e w' => e = .returned (.string (str (textA a))) ∧ Below w.heap.size w w') := by
  obtain ⟨a0, b0, c0, d0⟩ := a
  have h0 := a0.toNat_lt; have h1 := b0.toNat_lt; have h2 := c0.toNat_lt; have h3 := d0.toNat_lt
  show Calls _ _ #[.agg #[.int .u8 (a0.toNat : Int), .int .u8 (b0.toNat : Int), .int .u8 (c0.toNat : Int), .int .u8 (d0.toNat : Int)]] w (fun e w' => e = .returned (.string (str (decB a0.toNat ++ 46 :: (decB b0.toNat ++ 46 :: (decB c0.toNat ++ 46 :: decB d0.toNat))))) ∧ Below w.heap.size w w')
  generalize a0.toNat = x0 at *
  generalize b0.toNat = x1 at *
  generalize c0.toNat = x2 at *
  generalize d0.toNat = x3 at *
  obtain ⟨i0, i1, i2, i3⟩ := idx4 x0 x1 x2 x3
  have l0 := decB_le x0; have l1 := decB_le x1; have l2 := decB_le x2; have l3 := decB_le x3
  have E0 := Lib.hid (rfl : decB x0 = decB x0); have E1 := Lib.hid (rfl : decB x1 = decB x1); have E2 := Lib.hid (rfl : decB x2 = decB x2); have E3 := Lib.hid (rfl : decB x3 = decB x3)
  obtain ⟨A0, a0⟩ : ∃ l, decB x0 = l := ⟨_, rfl⟩
  obtain ⟨A1, a1⟩ : ∃ l, decB x1 = l := ⟨_, rfl⟩
  obtain ⟨A2, a2⟩ : ∃ l, decB x2 = l := ⟨_, rfl⟩
  obtain ⟨A3, a3⟩ : ∃ l, decB x3 = l := ⟨_, rfl⟩
  rw [a0] at l0; rw [a1] at l1; rw [a2] at l2; rw [a3] at l3
  rw [a0, a1, a2, a3]
  have H0 := Lib.hid a0; have H1 := Lib.hid a1; have H2 := Lib.hid a2; have H3 := Lib.hid a3
  clear a0 a1 a2 a3 E0 E1 E2 E3
  have s0 : ∀ w, (Op.stringOp .add ⟨#[]⟩ (str A0)).run Tryz.prog w = .ok (.string (str A0)) w := fun w => str_add w [] A0 (by simp; omega)
  have d0 : ∀ w, (Op.stringOp .add (str A0) ⟨#[46]⟩).run Tryz.prog w = .ok (.string (str (A0 ++ [46]))) w := fun w => str_add w A0 [46] (by simp; omega)
  obtain ⟨B1, b1⟩ : ∃ l, A0 ++ [46] = l := ⟨_, rfl⟩
  have n1 := congrArg List.length b1
  simp at n1
  rw [b1] at d0
  have s1 : ∀ w, (Op.stringOp .add (str B1) (str A1)).run Tryz.prog w = .ok (.string (str (B1 ++ A1))) w := fun w => str_add w B1 A1 (by omega)
  obtain ⟨C1, c1⟩ : ∃ l, B1 ++ A1 = l := ⟨_, rfl⟩
  have m1 := congrArg List.length c1
  simp at m1
  rw [c1] at s1
  have d1 : ∀ w, (Op.stringOp .add (str C1) ⟨#[46]⟩).run Tryz.prog w = .ok (.string (str (C1 ++ [46]))) w := fun w => str_add w C1 [46] (by simp; omega)
  obtain ⟨B2, b2⟩ : ∃ l, C1 ++ [46] = l := ⟨_, rfl⟩
  have n2 := congrArg List.length b2
  simp at n2
  rw [b2] at d1
  have s2 : ∀ w, (Op.stringOp .add (str B2) (str A2)).run Tryz.prog w = .ok (.string (str (B2 ++ A2))) w := fun w => str_add w B2 A2 (by omega)
  obtain ⟨C2, c2⟩ : ∃ l, B2 ++ A2 = l := ⟨_, rfl⟩
  have m2 := congrArg List.length c2
  simp at m2
  rw [c2] at s2
  have d2 : ∀ w, (Op.stringOp .add (str C2) ⟨#[46]⟩).run Tryz.prog w = .ok (.string (str (C2 ++ [46]))) w := fun w => str_add w C2 [46] (by simp; omega)
  obtain ⟨B3, b3⟩ : ∃ l, C2 ++ [46] = l := ⟨_, rfl⟩
  have n3 := congrArg List.length b3
  simp at n3
  rw [b3] at d2
  have s3 : ∀ w, (Op.stringOp .add (str B3) (str A3)).run Tryz.prog w = .ok (.string (str (B3 ++ A3))) w := fun w => str_add w B3 A3 (by omega)
  obtain ⟨C3, c3⟩ : ∃ l, B3 ++ A3 = l := ⟨_, rfl⟩
  rw [c3] at s3
  have HC := Lib.hid (show A0 ++ 46 :: (A1 ++ 46 :: (A2 ++ 46 :: A3)) = C3 by rw [← c3, ← b3, ← c2, ← b2, ← c1, ← b1]; simp)
  clear b1 n1 c1 m1 b2 n2 c2 m2 b3 n3 c3 l0 l1 l2 l3
  have q1 : Below w.heap.size w (w.alloc (.cells #[.int .u8 (x0 : Int), .int .u8 (x1 : Int), .int .u8 (x2 : Int), .int .u8 (x3 : Int)] 24)) := (Below.refl _ w).alloc (Nat.le_refl _) _
  go_enter Tryz.func35, Tryz.ntmps35
  go_wp2_with fail
  generalize w.alloc (.cells #[.int .u8 (x0 : Int), .int .u8 (x1 : Int), .int .u8 (x2 : Int), .int .u8 (x3 : Int)] 24) = w1 at q1 ⊢
  refine wp_loop_rounds 5 ?_
  rw [rounds_succ]
  go_wp2_with fail
  refine (itoa_any _ (hp.below q1) x0 (by omega)).mono ?_
  rw [H0.out]
  rintro e w2 ⟨rfl, q2⟩
  replace q2 := q1.trans (q2.mono q1.size)
  go_wp2_with fail
  rw [rounds_succ]
  go_wp2_with fail
  refine (itoa_any _ (hp.below q2) x1 (by omega)).mono ?_
  rw [H1.out]
  rintro e w3 ⟨rfl, q3⟩
  replace q3 := q2.trans (q3.mono q2.size)
  go_wp2_with fail
  rw [rounds_succ]
  go_wp2_with fail
  refine (itoa_any _ (hp.below q3) x2 (by omega)).mono ?_
  rw [H2.out]
  rintro e w4 ⟨rfl, q4⟩
  replace q4 := q3.trans (q4.mono q3.size)
  go_wp2_with fail
  rw [rounds_succ]
  go_wp2_with fail
  refine (itoa_any _ (hp.below q4) x3 (by omega)).mono ?_
  rw [H3.out]
  rintro e w5 ⟨rfl, q5⟩
  replace q5 := q4.trans (q5.mono q4.size)
  go_wp2_with fail
  rw [rounds_succ]
  go_wp2_with fail
  go_ret
  exact ⟨by rw [HC.out]; rfl, q5⟩

/-- The text of a net. -/
def textN (a : Ad4) (b : Nat) : List UInt8 := textA a ++ 47 :: decB b
theorem textA_le (a : Ad4) : (textA a).length ≤ 90 := by
  have h0 := a.a.toNat_lt; have h1 := a.b.toNat_lt; have h2 := a.c.toNat_lt; have h3 := a.d.toNat_lt
  have l0 := decB_le a.a.toNat; have l1 := decB_le a.b.toNat; have l2 := decB_le a.c.toNat; have l3 := decB_le a.d.toNat
  simp [textA]
  omega
set_option maxRecDepth 100000 in
set_option maxHeartbeats 1000000 in
theorem netText_any (w : World) (hp : powIs w) (a : Ad4) (b : Nat) (hb : b ≤ 1000) : Calls Tryz.prog 33 #[netV a b] w (fun e w' => e = .returned (.string (str (textN a b))) ∧ Below w.heap.size w w') := by
  have lt := textA_le a
  have ld := decB_le b
  have HT := Lib.hid (show textN a b = textA a ++ 47 :: decB b from rfl)
  obtain ⟨T, hT⟩ : ∃ l, textA a = l := ⟨_, rfl⟩
  obtain ⟨D, hD⟩ : ∃ l, decB b = l := ⟨_, rfl⟩
  rw [hT] at HT lt
  rw [hD] at HT ld
  have HHT := Lib.hid hT
  have HHD := Lib.hid hD
  have d0 : ∀ w, (Op.stringOp .add (str T) ⟨#[47]⟩).run Tryz.prog w = .ok (.string (str (T ++ [47]))) w := fun w => str_add w T [47] (by simp; omega)
  obtain ⟨B1, b1⟩ : ∃ l, T ++ [47] = l := ⟨_, rfl⟩
  have n1 := congrArg List.length b1
  simp at n1
  rw [b1] at d0
  have s1 : ∀ w, (Op.stringOp .add (str B1) (str D)).run Tryz.prog w = .ok (.string (str (B1 ++ D))) w := fun w => str_add w B1 D (by omega)
  obtain ⟨C1, c1⟩ : ∃ l, B1 ++ D = l := ⟨_, rfl⟩
  rw [c1] at s1
  have HC := Lib.hid (show textN a b = C1 by rw [HT.out, ← c1, ← b1]; simp)
  have P0 : (w.alloc (.cells (netC a b) 26)).heap[w.heap.size]? = some (.cells (netC a b) 26 (0, 0)) := heap_alloc_new w _
  have q1 : Below w.heap.size w (w.alloc (.cells (netC a b) 26)) := (Below.refl _ w).alloc (Nat.le_refl _) _
  clear b1 n1 c1 lt ld hT hD HT
  go_enter Tryz.func33, Tryz.ntmps33
  go_upto_region 1 with fail
  generalize w.alloc (.cells (netC a b) 26) = w1 at P0 q1 ⊢
  obtain ⟨g, hg⟩ : ∃ g, w.heap.size = g := ⟨_, rfl⟩
  rw [hg] at P0 ⊢
  have HG := Lib.hid hg
  have hp1 := hp.below q1
  clear hg hp
  have r0 : Below w1.heap.size w1 w1.drew := (Below.refl _ _).drew
  have f0 := Ext.cells (w := w1.drew) (M := fun _ => False) P0 (fun h => h)
  refine rg_begin (fun _ => False) (by kernel_rfl) ?_
  refine rg_take (v := ?_) 0 rfl (by kernel_rfl) (by kernel_rfl) (by kernel_rfl) (fun _ _ _ h => h) (by rfl) ?_ ?_; rotate_left
  · (intro x hx; go_simp; first | done | with_reducible rfl | (rw [if_pos (by omega)]; try with_reducible rfl) | (rw [if_neg (by omega)]; try with_reducible rfl))
  try simp only [Act.put, List.setIfInBounds_toArray, List.set_cons_zero, List.set_cons_succ]
  refine rg_take (v := ?_) 1 rfl (by kernel_rfl) (by kernel_rfl) (by kernel_rfl) (fun _ _ _ h => h) (by rfl) ?_ ?_; rotate_left
  · (intro x hx; go_simp; first | done | with_reducible rfl | (rw [if_pos (by omega)]; try with_reducible rfl) | (rw [if_neg (by omega)]; try with_reducible rfl))
  try simp only [Act.put, List.setIfInBounds_toArray, List.set_cons_zero, List.set_cons_succ]
  refine rg_take (v := ?_) 4 rfl (by kernel_rfl) (by kernel_rfl) (by kernel_rfl) (fun _ _ _ h => h) (by rfl) ?_ ?_; rotate_left
  · (intro x hx; go_simp; first | done | with_reducible rfl | (rw [if_pos (by omega)]; try with_reducible rfl) | (rw [if_neg (by omega)]; try with_reducible rfl))
  try simp only [Act.put, List.setIfInBounds_toArray, List.set_cons_zero, List.set_cons_succ]
  refine rg_take (v := ?_) 5 rfl (by kernel_rfl) (by kernel_rfl) (by kernel_rfl) (fun _ _ _ h => h) (by rfl) ?_ ?_; rotate_left
  · (intro x hx; go_simp; first | done | with_reducible rfl | (rw [if_pos (by omega)]; try with_reducible rfl) | (rw [if_neg (by omega)]; try with_reducible rfl))
  try simp only [Act.put, List.setIfInBounds_toArray, List.set_cons_zero, List.set_cons_succ]
  refine rg_step 2 rfl (by kernel_rfl) (by rfl) (fun K hK => ?_)
  go_simp
  refine (text_any _ (hp1.below r0) a).mono ?_
  rw [HHT.out]
  rintro e w2 ⟨rfl, q2⟩
  have r2 := r0.trans (q2.mono r0.size)
  refine hK.out _ _ (Ext.below_all _ q2) ?_
  clear hK K; try simp only [Act.put, List.setIfInBounds_toArray, List.set_cons_zero, List.set_cons_succ]
  refine rg_take (v := ?_) 3 rfl (by kernel_rfl) (by kernel_rfl) (by kernel_rfl) (fun _ _ _ h => h) (by rfl) ?_ ?_; rotate_left
  · (intro x hx; go_simp; first | done | with_reducible rfl | (rw [if_pos (by omega)]; try with_reducible rfl) | (rw [if_neg (by omega)]; try with_reducible rfl))
  try simp only [Act.put, List.setIfInBounds_toArray, List.set_cons_zero, List.set_cons_succ]
  refine rg_step 6 rfl (by kernel_rfl) (by rfl) (fun K hK => ?_)
  go_simp
  refine (itoa_any _ (hp1.below r2) b (by omega)).mono ?_
  rw [HHD.out]
  rintro e w3 ⟨rfl, q3⟩
  have r3 := r2.trans (q3.mono r2.size)
  refine hK.out _ _ (Ext.below_all _ q3) ?_
  clear hK K; try simp only [Act.put, List.setIfInBounds_toArray, List.set_cons_zero, List.set_cons_succ]
  refine rg_take (v := ?_) 7 rfl (by kernel_rfl) (by kernel_rfl) (by kernel_rfl) (fun _ _ _ h => h) (by rfl) ?_ ?_; rotate_left
  · (intro x hx; go_simp; first | done | with_reducible rfl | (rw [if_pos (by omega)]; try with_reducible rfl) | (rw [if_neg (by omega)]; try with_reducible rfl))
  try simp only [Act.put, List.setIfInBounds_toArray, List.set_cons_zero, List.set_cons_succ]
  refine rg_take (v := ?_) 8 rfl (by kernel_rfl) (by kernel_rfl) (by kernel_rfl) (fun _ _ _ h => h) (by rfl) ?_ ?_; rotate_left
  · (intro x hx; go_simp; first | done | with_reducible rfl | (rw [if_pos (by omega)]; try with_reducible rfl) | (rw [if_neg (by omega)]; try with_reducible rfl))
  try simp only [Act.put, List.setIfInBounds_toArray, List.set_cons_zero, List.set_cons_succ]
  refine rg_done (by kernel_rfl) ?_
  go_wp2_with fail
  go_ret
  exact ⟨by rw [HC.out]; rfl, by rw [HG.out] at q1 ⊢; exact q1.trans (r3.mono (by rw [← HG.out]; have := q1.size; omega))⟩

/-- A device's address as text. -/
def hexC (n : Nat) : UInt8 := ([48, 49, 50, 51, 52, 53, 54, 55, 56, 57, 97, 98, 99, 100, 101, 102] : List UInt8).getD n 0
def hex2 (x : Nat) : List UInt8 := [hexC (x / 16), hexC (x % 16)]
def textM (m : Mac6) : List UInt8 := hex2 m.a.toNat ++ 58 :: (hex2 m.b.toNat ++ 58 :: (hex2 m.c.toNat ++ 58 :: (hex2 m.d.toNat ++ 58 :: (hex2 m.e.toNat ++ 58 :: hex2 m.f.toNat))))
end
section
open Go.RowKit

/-- What is written behind j bytes. -/
def macPre (bs : List UInt8) : Nat → List UInt8
  | 0 => []
  | j + 1 => macPre bs j ++ (if 0 < j then [58] else []) ++ hex2 (bs.getD j 0).toNat
theorem macPre_len (bs : List UInt8) : ∀ j, (macPre bs j).length ≤ 3 * j
  | 0 => by simp [macPre]
  | j + 1 => by
    have := macPre_len bs j
    rw [macPre]
    split <;> simp [hex2] <;> omega
theorem macPre_end (m : Mac6) : macPre m.bytes 6 = textM m := by simp [macPre, textM, Mac6.bytes]
theorem hexAt (n : Nat) (h : n < 16) : ∀ pf, (⟨#[48, 49, 50, 51, 52, 53, 54, 55, 56, 57, 97, 98, 99, 100, 101, 102]⟩ : ByteArray)[n]'pf = hexC n := by
  rcases (show n = 0 ∨ n = 1 ∨ n = 2 ∨ n = 3 ∨ n = 4 ∨ n = 5 ∨ n = 6 ∨ n = 7 ∨ n = 8 ∨ n = 9 ∨ n = 10 ∨ n = 11 ∨ n = 12 ∨ n = 13 ∨ n = 14 ∨ n = 15 by omega) with rfl | rfl | rfl | rfl | rfl | rfl | rfl | rfl | rfl | rfl | rfl | rfl | rfl | rfl | rfl | rfl <;> intro pf <;> rfl
theorem hexCells (y : Nat) (hy : y < 256) : ∀ p1 p2, #[Value.int .u8 (((⟨#[48, 49, 50, 51, 52, 53, 54, 55, 56, 57, 97, 98, 99, 100, 101, 102]⟩ : ByteArray)[((y : Int) / 16).toNat]'p1).toNat : Int), .int .u8 (((⟨#[48, 49, 50, 51, 52, 53, 54, 55, 56, 57, 97, 98, 99, 100, 101, 102]⟩ : ByteArray)[((y : Int) % 16).toNat]'p2).toNat : Int)] = (bv (hex2 y)).toArray := by
  intro p1 p2
  rw [hexAt _ (by omega), hexAt _ (by omega), show ((y : Int) / 16).toNat = y / 16 by omega, show ((y : Int) % 16).toNat = y % 16 by omega]
  rfl
theorem idx6 (m : Mac6) (j : Nat) (h : j < 6) (w : World) : (Instr.index 28 (macV m) (.int .i64 j)).run Tryz.prog w = .ok (.int .u8 ((m.bytes.getD j 0).toNat : Int)) w := by
  obtain ⟨a, b, c, d, e, f⟩ := m
  rcases (show j = 0 ∨ j = 1 ∨ j = 2 ∨ j = 3 ∨ j = 4 ∨ j = 5 by omega) with rfl | rfl | rfl | rfl | rfl | rfl <;> kernel_rfl
theorem and15 (x : Nat) (hx : x < 256) : bits BinOp.and IntKind.u8 (x : Int) 15 = ((x % 16 : Nat) : Int) := by
  have h := u8_and_nat x 15 hx (by decide)
  rw [show (15 : Nat) = 2 ^ 4 - 1 from rfl, Nat.and_two_pow_sub_one_eq_mod] at h
  exact h

def MRel (w : World) (m : Mac6) (v iv : Value) (wr : World) : Prop :=
  ∃ (A : Option Addr) (n c j : Nat), v = .slice A n c ∧ iv = .int .i64 j ∧ j ≤ 6 ∧ OB wr w.heap.size A n c (macPre m.bytes j) ∧ Below w.heap.size w wr
set_option maxRecDepth 100000 in
set_option maxHeartbeats 2000000 in
theorem macText_any (w : World) (m : Mac6) : Calls Tryz.prog 34 #[macV m] w (fun e w' => e = .returned (.string (str (textM m))) ∧ Below w.heap.size w w') := by
  have q1 : Below w.heap.size w (w.alloc (.cells #[.int .u8 (m.a.toNat : Int), .int .u8 (m.b.toNat : Int), .int .u8 (m.c.toNat : Int), .int .u8 (m.d.toNat : Int), .int .u8 (m.e.toNat : Int), .int .u8 (m.f.toNat : Int)] 28)) := (Below.refl _ w).alloc (Nat.le_refl _) _
  go_enter Tryz.func34, Tryz.ntmps34
  go_wp2_with fail
  generalize w.alloc (.cells #[.int .u8 (m.a.toNat : Int), .int .u8 (m.b.toNat : Int), .int .u8 (m.c.toNat : Int), .int .u8 (m.d.toNat : Int), .int .u8 (m.e.toNat : Int), .int .u8 (m.f.toNat : Int)] 28) = w1 at q1 ⊢
  go_loopw [3, 7] (fun v iv wr => MRel w m v iv wr) (fun _ iv _ => 6 - (intOf iv).toNat)
  case atStart => exact ⟨none, 0, 0, 0, rfl, rfl, Nat.zero_le _, ⟨rfl, World.ownsRow_nil _ _ _ _⟩, q1⟩
  case round =>
    obtain ⟨A, n, c, j, rfl, rfl, hj, ho, hb⟩ := hrel
    have hz := hb.size
    by_cases hlt : j < 6
    · have hpl := macPre_len m.bytes j
      have ix := fun w => idx6 m j hlt w
      obtain ⟨x, hx⟩ : ∃ x, (m.bytes.getD j 0) = x := ⟨_, rfl⟩
      have HX := Lib.hid hx
      rw [hx] at ix
      have hxl := x.toNat_lt
      obtain ⟨y, hy⟩ : ∃ y, x.toNat = y := ⟨_, rfl⟩
      have HY := Lib.hid hy
      rw [hy] at ix hxl
      have ha := and15 y (by omega)
      have h1 : (0 : Int) ≤ (y : Int) / 16 ∧ (y : Int) / 16 < 16 := by omega
      have h2 : (0 : Int) ≤ (y : Int) % 16 ∧ (y : Int) % 16 < 16 := by omega
      have HY2 := Lib.hid hxl
      obtain ⟨P, hP⟩ : ∃ P, macPre m.bytes j = P := ⟨_, rfl⟩
      rw [hP] at ho hpl
      have HP := Lib.hid hP
      clear hx hy hP
      have HN : macPre m.bytes (j + 1) = P ++ (if 0 < j then [58] else []) ++ hex2 y := by rw [macPre, HP.out, HX.out, HY.out]
      have HNN := Lib.hid HN
      clear HN
      rcases Nat.eq_zero_or_pos j with c4 | c4
      · have HQ := Lib.hid (show macPre m.bytes (j + 1) = P ++ hex2 y by rw [HNN.out, if_neg (by omega)]; simp)
        have d1 : decide (0 < (j : Int)) = false := decide_eq_false (by omega)
        have d2 : decide (0 < j) = false := decide_eq_false (by omega)
        have HJ := Lib.hid c4
        clear c4
        go_upto_region 7 with fail
        have HZ := Lib.hid (hb).size
        have ho7 : OB wr.drew w.heap.size A n c P := ho
        have hb7 : Below w.heap.size w wr.drew := (hb).drew
        clear ho hb
        refine rg_begin (fun k => w.heap.size ≤ k) (by kernel_rfl) ?_
        refine rg_take (v := ?_) 0 rfl (by kernel_rfl) (by kernel_rfl) (by kernel_rfl) (fun _ _ _ h => h) (by rfl) ?_ ?_; rotate_left
        · (intro x hx; go_simp; first | done | with_reducible rfl | (rw [if_pos (by omega)]; try with_reducible rfl) | (rw [if_neg (by omega)]; try with_reducible rfl))
        try simp only [Act.put, List.setIfInBounds_toArray, List.set_cons_zero, List.set_cons_succ]
        refine rg_take (v := ?_) 1 rfl (by kernel_rfl) (by kernel_rfl) (by kernel_rfl) (fun _ _ _ h => h) (by rfl) ?_ ?_; rotate_left
        · (intro x hx; go_simp; first | done | with_reducible rfl | (rw [if_pos (by omega)]; try with_reducible rfl) | (rw [if_neg (by omega)]; try with_reducible rfl))
        try simp only [Act.put, List.setIfInBounds_toArray, List.set_cons_zero, List.set_cons_succ]
        refine rg_take (v := ?_) 2 rfl (by kernel_rfl) (by kernel_rfl) (by kernel_rfl) (fun _ _ _ h => h) (by rfl) ?_ ?_; rotate_left
        · (intro x hx; go_simp; first | done | with_reducible rfl | (rw [if_pos (by omega)]; try with_reducible rfl) | (rw [if_neg (by omega)]; try with_reducible rfl))
        try simp only [Act.put, List.setIfInBounds_toArray, List.set_cons_zero, List.set_cons_succ]
        refine rg_take (v := ?_) 3 rfl (by kernel_rfl) (by kernel_rfl) (by kernel_rfl) (fun _ _ _ h => h) (by rfl) ?_ ?_; rotate_left
        · (intro x hx; go_simp; first | done | with_reducible rfl | (rw [if_pos (by omega)]; try with_reducible rfl) | (rw [if_neg (by omega)]; try with_reducible rfl))
        try simp only [Act.put, List.setIfInBounds_toArray, List.set_cons_zero, List.set_cons_succ]
        refine rg_take (v := ?_) 4 rfl (by kernel_rfl) (by kernel_rfl) (by kernel_rfl) (fun _ _ _ h => h) (by rfl) ?_ ?_; rotate_left
        · (intro x hx; go_simp; first | done | with_reducible rfl | (rw [if_pos (by omega)]; try with_reducible rfl) | (rw [if_neg (by omega)]; try with_reducible rfl))
        try simp only [Act.put, List.setIfInBounds_toArray, List.set_cons_zero, List.set_cons_succ]
        refine rg_take (v := ?_) 5 rfl (by kernel_rfl) (by kernel_rfl) (by kernel_rfl) (fun _ _ _ h => h) (by rfl) ?_ ?_; rotate_left
        · (intro x hx; go_simp; first | done | with_reducible rfl | (rw [if_pos (by omega)]; try with_reducible rfl) | (rw [if_neg (by omega)]; try with_reducible rfl))
        try simp only [Act.put, List.setIfInBounds_toArray, List.set_cons_zero, List.set_cons_succ]
        refine rg_take (v := ?_) 6 rfl (by kernel_rfl) (by kernel_rfl) (by kernel_rfl) (fun _ _ _ h => h) (by rfl) ?_ ?_; rotate_left
        · (intro x hx; go_simp; first | done | with_reducible rfl | (rw [if_pos (by omega)]; try with_reducible rfl) | (rw [if_neg (by omega)]; try with_reducible rfl))
        try simp only [Act.put, List.setIfInBounds_toArray, List.set_cons_zero, List.set_cons_succ]
        refine rg_step 7 rfl (by kernel_rfl) (by rfl) (fun K hK => ?_)
        go_simp
        refine hK.out _ _ (Ext.below_all _ ((Below.refl _ _).alloc (Nat.le_refl _) _)) ?_
        clear hK K; try simp only [Act.put, List.setIfInBounds_toArray, List.set_cons_zero, List.set_cons_succ]
        refine rg_step 8 rfl (by kernel_rfl) (by rfl) (fun K hK => ?_)
        refine wp_app8 _ _ 0 0 rfl w.heap.size A n c P rfl (ho7.alloc _) (wr.heap.size + 1) _ 2 2 (hex2 y) rfl ((BS.block (hex2 y) (heap_alloc_new wr.drew _) (hexCells y HY2.out _ _) (by simp [hex2, maxLen])).more (by simp)) (by simp [hex2]; omega) (by have := HZ.out; simp; omega) ?_
        intro A5 n5 c5 w5 ho5 hb5 hg5
        have hb6 := (hb7.alloc HZ.out _).trans hb5
        refine hK.out _ _ (Ext.of_below _ hb5 fun k hk _ => hk) ?_
        clear hK K; try simp only [Act.put, List.setIfInBounds_toArray, List.set_cons_zero, List.set_cons_succ]
        refine rg_take (v := ?_) 9 rfl (by kernel_rfl) (by kernel_rfl) (by kernel_rfl) (fun _ _ _ h => h) (by rfl) ?_ ?_; rotate_left
        · (intro x hx; go_simp; first | done | with_reducible rfl | (rw [if_pos (by omega)]; try with_reducible rfl) | (rw [if_neg (by omega)]; try with_reducible rfl))
        try simp only [Act.put, List.setIfInBounds_toArray, List.set_cons_zero, List.set_cons_succ]
        refine rg_done (by kernel_rfl) ?_
        go_wp2_with fail
        go_roundw
        case rel => exact ⟨A5, n5, c5, j + 1, rfl, by go_num, by omega, by rw [HQ.out]; exact ho5, hb6⟩
        case measure => simp [intOf]; omega
      · have HQ := Lib.hid (show macPre m.bytes (j + 1) = (P ++ [58]) ++ hex2 y by rw [HNN.out, if_pos c4])
        have d1 : decide (0 < (j : Int)) = true := decide_eq_true (by omega)
        have d2 : decide (0 < j) = true := decide_eq_true (by omega)
        go_wp2_with (at_builtin; go_must (refine app8 rfl _ _ rfl w.heap.size A n c P rfl (ho.alloc _) (wr.heap.size + 1) _ 1 1 [58] rfl ((BS.block [58] (heap_alloc_new wr _) (by simp [bv]) (by simp [maxLen])).more (by simp)) (by simp; omega) (by simp; omega) ?_))
        intro A' n' c' w' ho' hbw hg
        have hbn := (hb.alloc hz _).trans hbw
        have hql : (P ++ [58]).length ≤ 3 * j + 1 := by simp; omega
        clear ho hb hbw hg hz
        go_upto_region 7 with fail
        have HZ := Lib.hid (hbn).size
        have ho7 : OB w'.drew w.heap.size A' n' c' (P ++ [58]) := ho'
        have hb7 : Below w.heap.size w w'.drew := (hbn).drew
        clear ho' hbn
        refine rg_begin (fun k => w.heap.size ≤ k) (by kernel_rfl) ?_
        refine rg_take (v := ?_) 0 rfl (by kernel_rfl) (by kernel_rfl) (by kernel_rfl) (fun _ _ _ h => h) (by rfl) ?_ ?_; rotate_left
        · (intro x hx; go_simp; first | done | with_reducible rfl | (rw [if_pos (by omega)]; try with_reducible rfl) | (rw [if_neg (by omega)]; try with_reducible rfl))
        try simp only [Act.put, List.setIfInBounds_toArray, List.set_cons_zero, List.set_cons_succ]
        refine rg_take (v := ?_) 1 rfl (by kernel_rfl) (by kernel_rfl) (by kernel_rfl) (fun _ _ _ h => h) (by rfl) ?_ ?_; rotate_left
        · (intro x hx; go_simp; first | done | with_reducible rfl | (rw [if_pos (by omega)]; try with_reducible rfl) | (rw [if_neg (by omega)]; try with_reducible rfl))
        try simp only [Act.put, List.setIfInBounds_toArray, List.set_cons_zero, List.set_cons_succ]
        refine rg_take (v := ?_) 2 rfl (by kernel_rfl) (by kernel_rfl) (by kernel_rfl) (fun _ _ _ h => h) (by rfl) ?_ ?_; rotate_left
        · (intro x hx; go_simp; first | done | with_reducible rfl | (rw [if_pos (by omega)]; try with_reducible rfl) | (rw [if_neg (by omega)]; try with_reducible rfl))
        try simp only [Act.put, List.setIfInBounds_toArray, List.set_cons_zero, List.set_cons_succ]
        refine rg_take (v := ?_) 3 rfl (by kernel_rfl) (by kernel_rfl) (by kernel_rfl) (fun _ _ _ h => h) (by rfl) ?_ ?_; rotate_left
        · (intro x hx; go_simp; first | done | with_reducible rfl | (rw [if_pos (by omega)]; try with_reducible rfl) | (rw [if_neg (by omega)]; try with_reducible rfl))
        try simp only [Act.put, List.setIfInBounds_toArray, List.set_cons_zero, List.set_cons_succ]
        refine rg_take (v := ?_) 4 rfl (by kernel_rfl) (by kernel_rfl) (by kernel_rfl) (fun _ _ _ h => h) (by rfl) ?_ ?_; rotate_left
        · (intro x hx; go_simp; first | done | with_reducible rfl | (rw [if_pos (by omega)]; try with_reducible rfl) | (rw [if_neg (by omega)]; try with_reducible rfl))
        try simp only [Act.put, List.setIfInBounds_toArray, List.set_cons_zero, List.set_cons_succ]
        refine rg_take (v := ?_) 5 rfl (by kernel_rfl) (by kernel_rfl) (by kernel_rfl) (fun _ _ _ h => h) (by rfl) ?_ ?_; rotate_left
        · (intro x hx; go_simp; first | done | with_reducible rfl | (rw [if_pos (by omega)]; try with_reducible rfl) | (rw [if_neg (by omega)]; try with_reducible rfl))
        try simp only [Act.put, List.setIfInBounds_toArray, List.set_cons_zero, List.set_cons_succ]
        refine rg_take (v := ?_) 6 rfl (by kernel_rfl) (by kernel_rfl) (by kernel_rfl) (fun _ _ _ h => h) (by rfl) ?_ ?_; rotate_left
        · (intro x hx; go_simp; first | done | with_reducible rfl | (rw [if_pos (by omega)]; try with_reducible rfl) | (rw [if_neg (by omega)]; try with_reducible rfl))
        try simp only [Act.put, List.setIfInBounds_toArray, List.set_cons_zero, List.set_cons_succ]
        refine rg_step 7 rfl (by kernel_rfl) (by rfl) (fun K hK => ?_)
        go_simp
        refine hK.out _ _ (Ext.below_all _ ((Below.refl _ _).alloc (Nat.le_refl _) _)) ?_
        clear hK K; try simp only [Act.put, List.setIfInBounds_toArray, List.set_cons_zero, List.set_cons_succ]
        refine rg_step 8 rfl (by kernel_rfl) (by rfl) (fun K hK => ?_)
        refine wp_app8 _ _ 0 0 rfl w.heap.size A' n' c' (P ++ [58]) rfl (ho7.alloc _) (w'.heap.size + 1) _ 2 2 (hex2 y) rfl ((BS.block (hex2 y) (heap_alloc_new w'.drew _) (hexCells y HY2.out _ _) (by simp [hex2, maxLen])).more (by simp)) (by simp [hex2]; omega) (by have := HZ.out; simp; omega) ?_
        intro A5 n5 c5 w5 ho5 hb5 hg5
        have hb6 := (hb7.alloc HZ.out _).trans hb5
        refine hK.out _ _ (Ext.of_below _ hb5 fun k hk _ => hk) ?_
        clear hK K; try simp only [Act.put, List.setIfInBounds_toArray, List.set_cons_zero, List.set_cons_succ]
        refine rg_take (v := ?_) 9 rfl (by kernel_rfl) (by kernel_rfl) (by kernel_rfl) (fun _ _ _ h => h) (by rfl) ?_ ?_; rotate_left
        · (intro x hx; go_simp; first | done | with_reducible rfl | (rw [if_pos (by omega)]; try with_reducible rfl) | (rw [if_neg (by omega)]; try with_reducible rfl))
        try simp only [Act.put, List.setIfInBounds_toArray, List.set_cons_zero, List.set_cons_succ]
        refine rg_done (by kernel_rfl) ?_
        go_wp2_with fail
        go_roundw
        case rel => exact ⟨A5, n5, c5, j + 1, rfl, by go_num, by omega, by rw [HQ.out]; exact ho5, hb6⟩
        case measure => simp [intOf]; omega
    · obtain rfl : j = 6 := by omega
      rw [macPre_end] at ho
      have hs := run_str ho.bs
      have HO := Lib.hid ho
      clear ho
      go_wp2_with fail
      go_ret
      exact ⟨rfl, hb⟩
end
end Go.Proofs.YtnmdiageigbphaaGreatDoor
