/-
  The text of a device's address; the reading of a net (package addr).
-/
import Derived.Test.YtabmgggmailomaaDoorAn6
namespace Go.Proofs.YtabmgggmailomaaDoor
open Go.RowKit

/-- What is written behind j bytes. -/
def macPre (bs : List UInt8) : Nat → List UInt8
  | 0 => []
  | j + 1 => macPre bs j ++ (if 0 < j then [58] else []) ++ hex2 (bs.getD j 0).toNat
theorem macPre_len (bs : List UInt8) : ∀ j, (macPre bs j).length ≤ 3 * j
  | 0 => by simp [macPre]
  | j + 1 => by
    have := macPre_len bs j
    rw [macPre]
    split <;> simp [hex2] <;> omega
theorem macPre_end (m : Mac6) : macPre m.bytes 6 = textM m := by simp [macPre, textM, Mac6.bytes]
theorem hexAt (n : Nat) (h : n < 16) : ∀ pf, (⟨#[48, 49, 50, 51, 52, 53, 54, 55, 56, 57, 97, 98, 99, 100, 101, 102]⟩ : ByteArray)[n]'pf = hexC n := by
  rcases (show n = 0 ∨ n = 1 ∨ n = 2 ∨ n = 3 ∨ n = 4 ∨ n = 5 ∨ n = 6 ∨ n = 7 ∨ n = 8 ∨ n = 9 ∨ n = 10 ∨ n = 11 ∨ n = 12 ∨ n = 13 ∨ n = 14 ∨ n = 15 by omega) with rfl | rfl | rfl | rfl | rfl | rfl | rfl | rfl | rfl | rfl | rfl | rfl | rfl | rfl | rfl | rfl <;> intro pf <;> rfl
theorem hexCells (y : Nat) (hy : y < 256) : ∀ p1 p2, #[Value.int .u8 (((⟨#[48, 49, 50, 51, 52, 53, 54, 55, 56, 57, 97, 98, 99, 100, 101, 102]⟩ : ByteArray)[((y : Int) / 16).toNat]'p1).toNat : Int), .int .u8 (((⟨#[48, 49, 50, 51, 52, 53, 54, 55, 56, 57, 97, 98, 99, 100, 101, 102]⟩ : ByteArray)[((y : Int) % 16).toNat]'p2).toNat : Int)] = (bv (hex2 y)).toArray := by
  intro p1 p2
  rw [hexAt _ (by omega), hexAt _ (by omega), show ((y : Int) / 16).toNat = y / 16 by omega, show ((y : Int) % 16).toNat = y % 16 by omega]
  rfl
theorem idx6 (m : Mac6) (j : Nat) (h : j < 6) (w : World) : (Instr.index 33 (macV m) (.int .i64 j)).run Tryd.prog w = .ok (.int .u8 ((m.bytes.getD j 0).toNat : Int)) w := by
  obtain ⟨a, b, c, d, e, f⟩ := m
  rcases (show j = 0 ∨ j = 1 ∨ j = 2 ∨ j = 3 ∨ j = 4 ∨ j = 5 by omega) with rfl | rfl | rfl | rfl | rfl | rfl <;> kernel_rfl
theorem and15 (x : Nat) (hx : x < 256) : bits BinOp.and IntKind.u8 (x : Int) 15 = ((x % 16 : Nat) : Int) := by
  have h := u8_and_nat x 15 hx (by decide)
  rw [show (15 : Nat) = 2 ^ 4 - 1 from rfl, Nat.and_two_pow_sub_one_eq_mod] at h
  exact h

def MRel (w : World) (m : Mac6) (v iv : Value) (wr : World) : Prop :=
  ∃ (A : Option Addr) (n c j : Nat), v = .slice A n c ∧ iv = .int .i64 j ∧ j ≤ 6 ∧ OB wr w.heap.size A n c (macPre m.bytes j) ∧ Below w.heap.size w wr
set_option maxRecDepth 100000 in
set_option maxHeartbeats 2000000 in
theorem macText_any (w : World) (m : Mac6) : Calls Tryd.prog 21 #[macV m] w (fun e w' => e = .returned (.string (str (textM m))) ∧ Below w.heap.size w w') := by
  have q1 : Below w.heap.size w (w.alloc (.cells #[.int .u8 (m.a.toNat : Int), .int .u8 (m.b.toNat : Int), .int .u8 (m.c.toNat : Int), .int .u8 (m.d.toNat : Int), .int .u8 (m.e.toNat : Int), .int .u8 (m.f.toNat : Int)] 33)) := (Below.refl _ w).alloc (Nat.le_refl _) _
  go_enter Tryd.func21, Tryd.ntmps21
  go_wp2_with fail
  generalize w.alloc (.cells #[.int .u8 (m.a.toNat : Int), .int .u8 (m.b.toNat : Int), .int .u8 (m.c.toNat : Int), .int .u8 (m.d.toNat : Int), .int .u8 (m.e.toNat : Int), .int .u8 (m.f.toNat : Int)] 33) = w1 at q1 ⊢
  go_loopw [3, 7] (fun v iv wr => MRel w m v iv wr) (fun _ iv _ => 6 - (intOf iv).toNat)
  case atStart => exact ⟨none, 0, 0, 0, rfl, rfl, Nat.zero_le _, ⟨rfl, World.ownsRow_nil _ _ _ _⟩, q1⟩
  case round =>
    obtain ⟨A, n, c, j, rfl, rfl, hj, ho, hb⟩ := hrel
    have hz := hb.size
    by_cases hlt : j < 6
    · have hpl := macPre_len m.bytes j
      have ix := fun w => idx6 m j hlt w
      obtain ⟨x, hx⟩ : ∃ x, (m.bytes.getD j 0) = x := ⟨_, rfl⟩
      have HX := Lib.hid hx
      rw [hx] at ix
      have hxl := x.toNat_lt
      obtain ⟨y, hy⟩ : ∃ y, x.toNat = y := ⟨_, rfl⟩
      have HY := Lib.hid hy
      rw [hy] at ix hxl
      have ha := and15 y (by omega)
      have h1 : (0 : Int) ≤ (y : Int) / 16 ∧ (y : Int) / 16 < 16 := by omega
      have h2 : (0 : Int) ≤ (y : Int) % 16 ∧ (y : Int) % 16 < 16 := by omega
      have HY2 := Lib.hid hxl
      obtain ⟨P, hP⟩ : ∃ P, macPre m.bytes j = P := ⟨_, rfl⟩
      rw [hP] at ho hpl
      have HP := Lib.hid hP
      clear hx hy hP
      have HN : macPre m.bytes (j + 1) = P ++ (if 0 < j then [58] else []) ++ hex2 y := by rw [macPre, HP.out, HX.out, HY.out]
      have HNN := Lib.hid HN
      clear HN
      rcases Nat.eq_zero_or_pos j with c4 | c4
      · have HQ := Lib.hid (show macPre m.bytes (j + 1) = P ++ hex2 y by rw [HNN.out, if_neg (by omega)]; simp)
        have d1 : decide (0 < (j : Int)) = false := decide_eq_false (by omega)
        have d2 : decide (0 < j) = false := decide_eq_false (by omega)
        have HJ := Lib.hid c4
        clear c4
        go_upto_region 7 with fail
        have HZ := Lib.hid (hb).size
        have ho7 : OB wr.drew w.heap.size A n c P := ho
        have hb7 : Below w.heap.size w wr.drew := (hb).drew
        clear ho hb
        refine rg_begin (fun k => w.heap.size ≤ k) (by kernel_rfl) ?_
        refine rg_take (v := ?_) 0 rfl (by kernel_rfl) (by kernel_rfl) (by kernel_rfl) (fun _ _ _ h => h) (by rfl) ?_ ?_; rotate_left
        · (intro x hx; go_simp; first | done | with_reducible rfl | (rw [if_pos (by omega)]; try with_reducible rfl) | (rw [if_neg (by omega)]; try with_reducible rfl))
        try simp only [Act.put, List.setIfInBounds_toArray, List.set_cons_zero, List.set_cons_succ]
        refine rg_take (v := ?_) 1 rfl (by kernel_rfl) (by kernel_rfl) (by kernel_rfl) (fun _ _ _ h => h) (by rfl) ?_ ?_; rotate_left
        · (intro x hx; go_simp; first | done | with_reducible rfl | (rw [if_pos (by omega)]; try with_reducible rfl) | (rw [if_neg (by omega)]; try with_reducible rfl))
        try simp only [Act.put, List.setIfInBounds_toArray, List.set_cons_zero, List.set_cons_succ]
        refine rg_take (v := ?_) 2 rfl (by kernel_rfl) (by kernel_rfl) (by kernel_rfl) (fun _ _ _ h => h) (by rfl) ?_ ?_; rotate_left
        · (intro x hx; go_simp; first | done | with_reducible rfl | (rw [if_pos (by omega)]; try with_reducible rfl) | (rw [if_neg (by omega)]; try with_reducible rfl))
        try simp only [Act.put, List.setIfInBounds_toArray, List.set_cons_zero, List.set_cons_succ]
        refine rg_take (v := ?_) 3 rfl (by kernel_rfl) (by kernel_rfl) (by kernel_rfl) (fun _ _ _ h => h) (by rfl) ?_ ?_; rotate_left
        · (intro x hx; go_simp; first | done | with_reducible rfl | (rw [if_pos (by omega)]; try with_reducible rfl) | (rw [if_neg (by omega)]; try with_reducible rfl))
        try simp only [Act.put, List.setIfInBounds_toArray, List.set_cons_zero, List.set_cons_succ]
        refine rg_take (v := ?_) 4 rfl (by kernel_rfl) (by kernel_rfl) (by kernel_rfl) (fun _ _ _ h => h) (by rfl) ?_ ?_; rotate_left
        · (intro x hx; go_simp; first | done | with_reducible rfl | (rw [if_pos (by omega)]; try with_reducible rfl) | (rw [if_neg (by omega)]; try with_reducible rfl))
        try simp only [Act.put, List.setIfInBounds_toArray, List.set_cons_zero, List.set_cons_succ]
        refine rg_take (v := ?_) 5 rfl (by kernel_rfl) (by kernel_rfl) (by kernel_rfl) (fun _ _ _ h => h) (by rfl) ?_ ?_; rotate_left
        · (intro x hx; go_simp; first | done | with_reducible rfl | (rw [if_pos (by omega)]; try with_reducible rfl) | (rw [if_neg (by omega)]; try with_reducible rfl))
        try simp only [Act.put, List.setIfInBounds_toArray, List.set_cons_zero, List.set_cons_succ]
        refine rg_take (v := ?_) 6 rfl (by kernel_rfl) (by kernel_rfl) (by kernel_rfl) (fun _ _ _ h => h) (by rfl) ?_ ?_; rotate_left
        · (intro x hx; go_simp; first | done | with_reducible rfl | (rw [if_pos (by omega)]; try with_reducible rfl) | (rw [if_neg (by omega)]; try with_reducible rfl))
        try simp only [Act.put, List.setIfInBounds_toArray, List.set_cons_zero, List.set_cons_succ]
        refine rg_step 7 rfl (by kernel_rfl) (by rfl) (fun K hK => ?_)
        go_simp
        refine hK.out _ _ (Ext.below_all _ ((Below.refl _ _).alloc (Nat.le_refl _) _)) ?_
        clear hK K; try simp only [Act.put, List.setIfInBounds_toArray, List.set_cons_zero, List.set_cons_succ]
        refine rg_step 8 rfl (by kernel_rfl) (by rfl) (fun K hK => ?_)
        refine wp_app8 _ _ 0 0 rfl w.heap.size A n c P rfl (ho7.alloc _) (wr.heap.size + 1) _ 2 2 (hex2 y) rfl ((BS.block (hex2 y) (heap_alloc_new wr.drew _) (hexCells y HY2.out _ _) (by simp [hex2, maxLen])).more (by simp)) (by simp [hex2]; omega) (by have := HZ.out; simp; omega) ?_
        intro A5 n5 c5 w5 ho5 hb5 hg5
        have hb6 := (hb7.alloc HZ.out _).trans hb5
        refine hK.out _ _ (Ext.of_below _ hb5 fun k hk _ => hk) ?_
        clear hK K; try simp only [Act.put, List.setIfInBounds_toArray, List.set_cons_zero, List.set_cons_succ]
        refine rg_take (v := ?_) 9 rfl (by kernel_rfl) (by kernel_rfl) (by kernel_rfl) (fun _ _ _ h => h) (by rfl) ?_ ?_; rotate_left
        · (intro x hx; go_simp; first | done | with_reducible rfl | (rw [if_pos (by omega)]; try with_reducible rfl) | (rw [if_neg (by omega)]; try with_reducible rfl))
        try simp only [Act.put, List.setIfInBounds_toArray, List.set_cons_zero, List.set_cons_succ]
        refine rg_done (by kernel_rfl) ?_
        go_wp2_with fail
        go_roundw
        case rel => exact ⟨A5, n5, c5, j + 1, rfl, by go_num, by omega, by rw [HQ.out]; exact ho5, hb6⟩
        case measure => simp [intOf]; omega
      · have HQ := Lib.hid (show macPre m.bytes (j + 1) = (P ++ [58]) ++ hex2 y by rw [HNN.out, if_pos c4])
        have d1 : decide (0 < (j : Int)) = true := decide_eq_true (by omega)
        have d2 : decide (0 < j) = true := decide_eq_true (by omega)
        go_wp2_with (at_builtin; go_must (refine app8 rfl _ _ rfl w.heap.size A n c P rfl (ho.alloc _) (wr.heap.size + 1) _ 1 1 [58] rfl ((BS.block [58] (heap_alloc_new wr _) (by simp [bv]) (by simp [maxLen])).more (by simp)) (by simp; omega) (by simp; omega) ?_))
        intro A' n' c' w' ho' hbw hg
        have hbn := (hb.alloc hz _).trans hbw
        have hql : (P ++ [58]).length ≤ 3 * j + 1 := by simp; omega
        clear ho hb hbw hg hz
        go_upto_region 7 with fail
        have HZ := Lib.hid (hbn).size
        have ho7 : OB w'.drew w.heap.size A' n' c' (P ++ [58]) := ho'
        have hb7 : Below w.heap.size w w'.drew := (hbn).drew
        clear ho' hbn
        refine rg_begin (fun k => w.heap.size ≤ k) (by kernel_rfl) ?_
        refine rg_take (v := ?_) 0 rfl (by kernel_rfl) (by kernel_rfl) (by kernel_rfl) (fun _ _ _ h => h) (by rfl) ?_ ?_; rotate_left
        · (intro x hx; go_simp; first | done | with_reducible rfl | (rw [if_pos (by omega)]; try with_reducible rfl) | (rw [if_neg (by omega)]; try with_reducible rfl))
        try simp only [Act.put, List.setIfInBounds_toArray, List.set_cons_zero, List.set_cons_succ]
        refine rg_take (v := ?_) 1 rfl (by kernel_rfl) (by kernel_rfl) (by kernel_rfl) (fun _ _ _ h => h) (by rfl) ?_ ?_; rotate_left
        · (intro x hx; go_simp; first | done | with_reducible rfl | (rw [if_pos (by omega)]; try with_reducible rfl) | (rw [if_neg (by omega)]; try with_reducible rfl))
        try simp only [Act.put, List.setIfInBounds_toArray, List.set_cons_zero, List.set_cons_succ]
        refine rg_take (v := ?_) 2 rfl (by kernel_rfl) (by kernel_rfl) (by kernel_rfl) (fun _ _ _ h => h) (by rfl) ?_ ?_; rotate_left
        · (intro x hx; go_simp; first | done | with_reducible rfl | (rw [if_pos (by omega)]; try with_reducible rfl) | (rw [if_neg (by omega)]; try with_reducible rfl))
        try simp only [Act.put, List.setIfInBounds_toArray, List.set_cons_zero, List.set_cons_succ]
        refine rg_take (v := ?_) 3 rfl (by kernel_rfl) (by kernel_rfl) (by kernel_rfl) (fun _ _ _ h => h) (by rfl) ?_ ?_; rotate_left
        · (intro x hx; go_simp; first | done | with_reducible rfl | (rw [if_pos (by omega)]; try with_reducible rfl) | (rw [if_neg (by omega)]; try with_reducible rfl))
        try simp only [Act.put, List.setIfInBounds_toArray, List.set_cons_zero, List.set_cons_succ]
        refine rg_take (v := ?_) 4 rfl (by kernel_rfl) (by kernel_rfl) (by kernel_rfl) (fun _ _ _ h => h) (by rfl) ?_ ?_; rotate_left
        · (intro x hx; go_simp; first | done | with_reducible rfl | (rw [if_pos (by omega)]; try with_reducible rfl) | (rw [if_neg (by omega)]; try with_reducible rfl))
        try simp only [Act.put, List.setIfInBounds_toArray, List.set_cons_zero, List.set_cons_succ]
        refine rg_take (v := ?_) 5 rfl (by kernel_rfl) (by kernel_rfl) (by kernel_rfl) (fun _ _ _ h => h) (by rfl) ?_ ?_; rotate_left
        · (intro x hx; go_simp; first | done | with_reducible rfl | (rw [if_pos (by omega)]; try with_reducible rfl) | (rw [if_neg (by omega)]; try with_reducible rfl))
        try simp only [Act.put, List.setIfInBounds_toArray, List.set_cons_zero, List.set_cons_succ]
        refine rg_take (v := ?_) 6 rfl (by kernel_rfl) (by kernel_rfl) (by kernel_rfl) (fun _ _ _ h => h) (by rfl) ?_ ?_; rotate_left
        · (intro x hx; go_simp; first | done | with_reducible rfl | (rw [if_pos (by omega)]; try with_reducible rfl) | (rw [if_neg (by omega)]; try with_reducible rfl))
        try simp only [Act.put, List.setIfInBounds_toArray, List.set_cons_zero, List.set_cons_succ]
        refine rg_step 7 rfl (by kernel_rfl) (by rfl) (fun K hK => ?_)
        go_simp
        refine hK.out _ _ (Ext.below_all _ ((Below.refl _ _).alloc (Nat.le_refl _) _)) ?_
        clear hK K; try simp only [Act.put, List.setIfInBounds_toArray, List.set_cons_zero, List.set_cons_succ]
        refine rg_step 8 rfl (by kernel_rfl) (by rfl) (fun K hK => ?_)
        refine wp_app8 _ _ 0 0 rfl w.heap.size A' n' c' (P ++ [58]) rfl (ho7.alloc _) (w'.heap.size + 1) _ 2 2 (hex2 y) rfl ((BS.block (hex2 y) (heap_alloc_new w'.drew _) (hexCells y HY2.out _ _) (by simp [hex2, maxLen])).more (by simp)) (by simp [hex2]; omega) (by have := HZ.out; simp; omega) ?_
        intro A5 n5 c5 w5 ho5 hb5 hg5
        have hb6 := (hb7.alloc HZ.out _).trans hb5
        refine hK.out _ _ (Ext.of_below _ hb5 fun k hk _ => hk) ?_
        clear hK K; try simp only [Act.put, List.setIfInBounds_toArray, List.set_cons_zero, List.set_cons_succ]
        refine rg_take (v := ?_) 9 rfl (by kernel_rfl) (by kernel_rfl) (by kernel_rfl) (fun _ _ _ h => h) (by rfl) ?_ ?_; rotate_left
        · (intro x hx; go_simp; first | done | with_reducible rfl | (rw [if_pos (by omega)]; try with_reducible rfl) | (rw [if_neg (by omega)]; try with_reducible rfl))
        try simp only [Act.put, List.setIfInBounds_toArray, List.set_cons_zero, List.set_cons_succ]
        refine rg_done (by kernel_rfl) ?_
        go_wp2_with fail
        go_roundw
        case rel => exact ⟨A5, n5, c5, j + 1, rfl, by go_num, by omega, by rw [HQ.out]; exact ho5, hb6⟩
        case measure => simp [intOf]; omega
    · obtain rfl : j = 6 := by omega
      rw [macPre_end] at ho
      have hs := run_str ho.bs
      have HO := Lib.hid ho
      clear ho
      go_wp2_with fail
      go_ret
      exact ⟨rfl, hb⟩
end Go.Proofs.YtabmgggmailomaaDoor
