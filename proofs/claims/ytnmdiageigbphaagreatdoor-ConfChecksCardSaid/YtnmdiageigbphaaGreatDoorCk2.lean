/-
  The reference's Text of a configuration that may be: its walk.
-/
import Derived.Test.YtnmdiageigbphaaGreatDoorCk1
import Derived.Test.YtnmdiageigbphaaGreatDoorTx2
namespace Go.Proofs.YtnmdiageigbphaaGreatDoor
open Go.RowKit

theorem add_letter (x y : List UInt8) (h : x.length + y.length ≤ 100000) : ∃ z, z = x ++ y ∧ z.length = x.length + y.length ∧ ∀ w, (Op.stringOp .add (str x) (str y)).run Tryz.prog w = .ok (.string (str z)) w :=
  ⟨x ++ y, rfl, by simp, fun w => str_addL w x y (by omega)⟩
set_option maxRecDepth 100000 in
set_option maxHeartbeats 2000000 in
theorem rline_any (w : World) (nm v : List UInt8) (h : nm.length + v.length ≤ 1000) : Calls Tryz.prog 47 #[.string (str nm), .string (str v)] w (fun e w' => e = .returned (.string (str (ln nm v ++ [10]))) ∧ w' = w) := by
  obtain ⟨z1, h1, l1, a1⟩ := add_letter nm [32, 61, 32] (by simp; omega)
  have l1' : z1.length = nm.length + 3 := l1
  obtain ⟨z2, h2, l2, a2⟩ := add_letter z1 v (by omega)
  obtain ⟨z3, h3, l3, a3⟩ := add_letter z2 [10] (by simp; omega)
  have HZ := Lib.hid (show ln nm v ++ [10] = z3 by rw [h3, h2, h1]; rfl)
  have b1 : ∀ w, (Op.stringOp .add (str nm) ⟨#[32, 61, 32]⟩).run Tryz.prog w = .ok (.string (str z1)) w := a1
  have b3 : ∀ w, (Op.stringOp .add (str z2) ⟨#[10]⟩).run Tryz.prog w = .ok (.string (str z3)) w := a3
  clear h1 h2 h3 l1 l2 l3 l1' a1 a3 h
  go_enter Tryz.func47, Tryz.ntmps47
  go_wp2_with fail
  go_ret
  exact ⟨by rw [HZ.out]; rfl, rfl⟩
theorem rdec_int (w : World) (v : Int) (h0 : 0 ≤ v) (h1 : v ≤ 9000000000) : Calls Tryz.prog 49 #[.int .i64 v] w (SPost w (decB v.toNat)) := by
  have h := rtext_all w v.toNat (by omega)
  rwa [Int.toNat_of_nonneg h0] at h
set_option maxRecDepth 100000 in
set_option maxHeartbeats 2000000 in
theorem rnumT_any (w : World) (nm : List UInt8) (v : Int) (hn : nm.length ≤ 50) (h0 : 0 ≤ v) (h1 : v ≤ 9000000000) : Calls Tryz.prog 51 #[.string (str nm), .int .i64 v] w (SPost w (ln nm (decB v.toNat) ++ [10])) := by
  have hd := rdec_int w v h0 h1
  have hl := dec_len240 v.toNat (by omega)
  obtain ⟨z, hz⟩ : ∃ z, decB v.toNat = z := ⟨_, rfl⟩
  rw [hz] at hd hl ⊢
  have hr := fun w => rline_any w nm z (by omega)
  clear hz hl hn h0 h1
  go_enter Tryz.func51, Tryz.ntmps51
  go_wp2_with fail
  refine hd.mono ?_
  rintro e w1 ⟨rfl, q1⟩
  go_wp2_with fail
  refine (hr w1).mono ?_
  rintro e w2 ⟨rfl, rfl⟩
  go_wp2_with fail
  go_ret
  exact ⟨rfl, q1⟩
theorem line_letter (nm v : List UInt8) (h1 : nm.length ≤ 20) (h2 : v.length ≤ 240) : ∃ z, z = ln nm v ++ [10] ∧ z.length ≤ v.length + 24 ∧ ∀ w, Calls Tryz.prog 47 #[.string (str nm), .string (str v)] w (fun e w' => e = .returned (.string (str z)) ∧ w' = w) :=
  ⟨_, rfl, by simp [ln]; omega, fun w => rline_any w nm v (by omega)⟩
theorem num_letter (nm : List UInt8) (v : Int) (h : nm.length ≤ 20) (h0 : 0 ≤ v) (h1 : v ≤ 9000000000) : ∃ z, z = ln nm (decB v.toNat) ++ [10] ∧ z.length ≤ 264 ∧ ∀ w, Calls Tryz.prog 51 #[.string (str nm), .int .i64 v] w (SPost w z) :=
  ⟨_, rfl, by have := dec_len240 v.toNat (by omega); simp [ln]; omega, fun w => rnumT_any w nm v (by omega) h0 h1⟩
theorem dec_letter (v : Int) (h0 : 0 ≤ v) (h1 : v ≤ 9000000000) : ∃ z, z = decB v.toNat ∧ z.length ≤ 21 ∧ ∀ w, Calls Tryz.prog 49 #[.int .i64 v] w (SPost w z) :=
  ⟨_, rfl, decB_le _ (by omega), fun w => rdec_int w v h0 h1⟩
theorem addr_letter (a : Ad4) : ∃ z, z = textA a ∧ z.length ≤ 90 ∧ ∀ w, Calls Tryz.prog 48 #[adV a] w (SPost w z) :=
  ⟨_, rfl, textA_le a, fun w => rAddrText_any w a⟩
theorem mac_letter (m : Mac6) : ∃ z, z = textM m ∧ z.length = 17 ∧ ∀ w, Calls Tryz.prog 50 #[macV m] w (SPost w z) :=
  ⟨_, rfl, textM_17 m, fun w => rMacText_any w m⟩
/-- What holds between two lines: the configuration at block g. -/
structure RxI (w : World) (g : Nat) (cs : Array Value) (wr : World) : Prop where
  P : wr.heap[g]? = some (.cells cs 40 (0, 0))
  b : Below w.heap.size w wr
theorem RxI.next {w wr w' : World} {g : Nat} {cs : Array Value} (I : RxI w g cs wr) (q : Below wr.heap.size wr w') : RxI w g cs w' :=
  ⟨below_at q I.P (heap_lt I.P), I.b.trans (q.mono I.b.size)⟩
theorem catL_take {l : List (List UInt8)} {i : Nat} {x : List UInt8} (h : l[i]? = some x) : catL (l.take (i + 1)) = catL (l.take i) ++ (x ++ [10]) := by
  rw [List.take_add_one, h, Option.toList_some, catL_snoc]
theorem catL_app (a b : List (List UInt8)) : catL (a ++ b) = catL a ++ catL b := by simp [catL]

set_option maxRecDepth 100000 in
set_option maxHeartbeats 16000000 in
theorem rtext10_any (w : World) (c : Cf) (lf : List Fx) (lo : List Opn) (A : Option Addr) (n k : Nat) (A2 : Option Addr) (n2 k2 : Nat) (hC : CR w w.heap.size ⟨c, lf, lo⟩ A n A2 n2) (hk : chkG ⟨c, lf, lo⟩ = 0) :
    Calls Tryz.prog 15 #[.agg (cfC c (.slice A n k) (.slice A2 n2 k2))] w (SPost w (textG ⟨c, lf, lo⟩)) := by
  have OK := ok_of hk
  have P0 := heap_alloc_new w (.cells (cfC c (.slice A n k) (.slice A2 n2 k2)) 40)
  have b0 : Below w.heap.size w (w.alloc (.cells (cfC c (.slice A n k) (.slice A2 n2 k2)) 40)) := (Below.refl _ w).alloc (Nat.le_refl _) _
  have HR := Lib.hid hC
  have HN := Lib.hid (⟨hC.nf, hC.no⟩ : _ ∧ _)
  have HOK := Lib.hid OK
  have hn32 : n ≤ 32 ∧ n2 ≤ 32 := by have h1 := hC.nf; have h2 := hC.no; have h3 := OK.nf; have h4 := OK.no; simp only at h1 h2; omega
  have HN32 := Lib.hid hn32
  clear hk hC hn32 OK
  go_enter Tryz.func15, Tryz.ntmps15
  go_upto_region 1 with fail
  generalize w.alloc (.cells (cfC c (.slice A n k) (.slice A2 n2 k2)) 40) = w0 at P0 b0 ⊢
  obtain ⟨g, hg⟩ : ∃ g, w.heap.size = g := ⟨_, rfl⟩
  rw [hg] at P0 ⊢
  have HG := Lib.hid hg
  have I0 : RxI w g (cfC c (.slice A n k) (.slice A2 n2 k2)) w0 := ⟨P0, b0⟩
  clear hg P0 b0
  obtain ⟨T1, hT1, lT1, cT1⟩ := addr_letter c.own
  obtain ⟨T2, hT2, lT2, aT2⟩ := add_letter T1 [47] (by simp; omega)
  have lT2' : T2.length = T1.length + 1 := lT2
  have aT2' : ∀ w, (Op.stringOp .add (str T1) ⟨#[47]⟩).run Tryz.prog w = .ok (.string (str T2)) w := aT2
  obtain ⟨D1, hD1, lD1, cD1⟩ := dec_letter c.lanB (by have := HOK.out.b0; omega) (by have := HOK.out.b1; omega)
  obtain ⟨T3, hT3, lT3, aT3⟩ := add_letter T2 D1 (by omega)
  obtain ⟨S1, hS1, lS1, cS1⟩ := line_letter nLan T3 (by decide) (by omega)
  have HS1 := Lib.hid (show S1 = catL [ln nLan (textN c.own c.lanB.toNat)] by rw [hS1, hT3, hT2, hT1, hD1]; simp [catL, textN])
  have LS1 : S1.length ≤ 200 := by omega
  clear hT1 hT2 hD1 hT3 hS1 lT1 lT2 lT2' lD1 lT3 lS1 aT2
  have PI1 := I0.P
  have r0 : Below w0.heap.size w0 w0.drew := (Below.refl _ _).drew
  have f0 := Ext.cells (w := w0.drew) (M := fun _ => False) PI1 (fun h => h)
  refine rg_begin (fun _ => False) (by kernel_rfl) ?_
  refine rg_take (v := ?_) 0 rfl (by kernel_rfl) (by kernel_rfl) (by kernel_rfl) (fun _ _ _ h => h) (by rfl) ?_ ?_; rotate_left
  · (intro x hx; go_simp; first | done | with_reducible rfl | (rw [if_pos (by omega)]; try with_reducible rfl) | (rw [if_neg (by omega)]; try with_reducible rfl))
  try simp only [Act.put, List.setIfInBounds_toArray, List.set_cons_zero, List.set_cons_succ]
  refine rg_take (v := ?_) 1 rfl (by kernel_rfl) (by kernel_rfl) (by kernel_rfl) (fun _ _ _ h => h) (by rfl) ?_ ?_; rotate_left
  · (intro x hx; go_simp; first | done | with_reducible rfl | (rw [if_pos (by omega)]; try with_reducible rfl) | (rw [if_neg (by omega)]; try with_reducible rfl))
  try simp only [Act.put, List.setIfInBounds_toArray, List.set_cons_zero, List.set_cons_succ]
  refine rg_take (v := ?_) 4 rfl (by kernel_rfl) (by kernel_rfl) (by kernel_rfl) (fun _ _ _ h => h) (by rfl) ?_ ?_; rotate_left
  · (intro x hx; go_simp; first | done | with_reducible rfl | (rw [if_pos (by omega)]; try with_reducible rfl) | (rw [if_neg (by omega)]; try with_reducible rfl))
  try simp only [Act.put, List.setIfInBounds_toArray, List.set_cons_zero, List.set_cons_succ]
  refine rg_take (v := ?_) 5 rfl (by kernel_rfl) (by kernel_rfl) (by kernel_rfl) (fun _ _ _ h => h) (by rfl) ?_ ?_; rotate_left
  · (intro x hx; go_simp; first | done | with_reducible rfl | (rw [if_pos (by omega)]; try with_reducible rfl) | (rw [if_neg (by omega)]; try with_reducible rfl))
  try simp only [Act.put, List.setIfInBounds_toArray, List.set_cons_zero, List.set_cons_succ]
  refine rg_take (v := ?_) 6 rfl (by kernel_rfl) (by kernel_rfl) (by kernel_rfl) (fun _ _ _ h => h) (by rfl) ?_ ?_; rotate_left
  · (intro x hx; go_simp; first | done | with_reducible rfl | (rw [if_pos (by omega)]; try with_reducible rfl) | (rw [if_neg (by omega)]; try with_reducible rfl))
  try simp only [Act.put, List.setIfInBounds_toArray, List.set_cons_zero, List.set_cons_succ]
  refine rg_step 2 rfl (by kernel_rfl) (by rfl) (fun K hK => ?_)
  go_simp
  refine (cT1 _).mono ?_
  rintro e v1_0 ⟨rfl, p1⟩
  replace r0 := r0.trans (p1.mono r0.size)
  have f0 := Ext.cells (w := v1_0) (M := fun _ => False) (below_at r0 PI1 (heap_lt PI1)) (fun h => h)
  refine hK.out _ _ (Ext.below_all _ p1) ?_
  clear hK K; try simp only [Act.put, List.setIfInBounds_toArray, List.set_cons_zero, List.set_cons_succ]
  refine rg_take (v := ?_) 3 rfl (by kernel_rfl) (by kernel_rfl) (by kernel_rfl) (fun _ _ _ h => h) (by rfl) ?_ ?_; rotate_left
  · (intro x hx; go_simp; first | done | with_reducible rfl | (rw [if_pos (by omega)]; try with_reducible rfl) | (rw [if_neg (by omega)]; try with_reducible rfl))
  try simp only [Act.put, List.setIfInBounds_toArray, List.set_cons_zero, List.set_cons_succ]
  refine rg_step 7 rfl (by kernel_rfl) (by rfl) (fun K hK => ?_)
  go_simp
  refine (cD1 _).mono ?_
  rintro e v1_1 ⟨rfl, p1⟩
  replace r0 := r0.trans (p1.mono r0.size)
  have f0 := Ext.cells (w := v1_1) (M := fun _ => False) (below_at r0 PI1 (heap_lt PI1)) (fun h => h)
  refine hK.out _ _ (Ext.below_all _ p1) ?_
  clear hK K; try simp only [Act.put, List.setIfInBounds_toArray, List.set_cons_zero, List.set_cons_succ]
  refine rg_take (v := ?_) 8 rfl (by kernel_rfl) (by kernel_rfl) (by kernel_rfl) (fun _ _ _ h => h) (by rfl) ?_ ?_; rotate_left
  · (intro x hx; go_simp; first | done | with_reducible rfl | (rw [if_pos (by omega)]; try with_reducible rfl) | (rw [if_neg (by omega)]; try with_reducible rfl))
  try simp only [Act.put, List.setIfInBounds_toArray, List.set_cons_zero, List.set_cons_succ]
  refine rg_step 9 rfl (by kernel_rfl) (by rfl) (fun K hK => ?_)
  go_simp
  refine (cS1 _).mono ?_
  rintro e v1_2 ⟨rfl, rfl⟩
  refine hK.out _ _ (Ext.refl _ _) ?_
  clear hK K; try simp only [Act.put, List.setIfInBounds_toArray, List.set_cons_zero, List.set_cons_succ]
  refine rg_take (v := ?_) 10 rfl (by kernel_rfl) (by kernel_rfl) (by kernel_rfl) (fun _ _ _ h => h) (by rfl) ?_ ?_; rotate_left
  · (intro x hx; go_simp; first | done | with_reducible rfl | (rw [if_pos (by omega)]; try with_reducible rfl) | (rw [if_neg (by omega)]; try with_reducible rfl))
  try simp only [Act.put, List.setIfInBounds_toArray, List.set_cons_zero, List.set_cons_succ]
  refine rg_done (by kernel_rfl) ?_
  have I1 := I0.next r0
  clear I0 PI1 r0 f0 cT1 aT2' cD1 aT3 cS1
  go_upto_region 2 with fail
  obtain ⟨w1, hw1⟩ : ∃ y, v1_2 = y := ⟨_, rfl⟩
  rw [hw1] at I1 ⊢
  clear hw1
  obtain ⟨M1, hM1, lM1, cM1⟩ := mac_letter c.lm
  obtain ⟨L1, hL1, lL1, cL1⟩ := line_letter nLanmac M1 (by decide) (by omega)
  obtain ⟨A1, hA1, lA1, aA1⟩ := add_letter S1 L1 (by omega)
  obtain ⟨M2, hM2, lM2, cM2⟩ := mac_letter c.wm
  obtain ⟨L2, hL2, lL2, cL2⟩ := line_letter nWanmac M2 (by decide) (by omega)
  obtain ⟨S2, hS2, lS2, aS2⟩ := add_letter A1 L2 (by omega)
  have HS2 := Lib.hid (show S2 = catL ([ln nLan (textN c.own c.lanB.toNat)] ++ [ln nLanmac (textM c.lm), ln nWanmac (textM c.wm)]) by rw [hS2, hA1, hL1, hL2, hM1, hM2, HS1.out]; simp [catL])
  have LS2 : S2.length ≤ 500 := by omega
  clear hM1 hL1 hA1 hM2 hL2 hS2 lM1 lL1 lA1 lM2 lL2 lS2
  have PI2 := I1.P
  have r0 : Below w1.heap.size w1 w1.drew := (Below.refl _ _).drew
  have f0 := Ext.cells (w := w1.drew) (M := fun _ => False) PI2 (fun h => h)
  refine rg_begin (fun _ => False) (by kernel_rfl) ?_
  refine rg_take (v := ?_) 0 rfl (by kernel_rfl) (by kernel_rfl) (by kernel_rfl) (fun _ _ _ h => h) (by rfl) ?_ ?_; rotate_left
  · (intro x hx; go_simp; first | done | with_reducible rfl | (rw [if_pos (by omega)]; try with_reducible rfl) | (rw [if_neg (by omega)]; try with_reducible rfl))
  try simp only [Act.put, List.setIfInBounds_toArray, List.set_cons_zero, List.set_cons_succ]
  refine rg_take (v := ?_) 1 rfl (by kernel_rfl) (by kernel_rfl) (by kernel_rfl) (fun _ _ _ h => h) (by rfl) ?_ ?_; rotate_left
  · (intro x hx; go_simp; first | done | with_reducible rfl | (rw [if_pos (by omega)]; try with_reducible rfl) | (rw [if_neg (by omega)]; try with_reducible rfl))
  try simp only [Act.put, List.setIfInBounds_toArray, List.set_cons_zero, List.set_cons_succ]
  refine rg_take (v := ?_) 2 rfl (by kernel_rfl) (by kernel_rfl) (by kernel_rfl) (fun _ _ _ h => h) (by rfl) ?_ ?_; rotate_left
  · (intro x hx; go_simp; first | done | with_reducible rfl | (rw [if_pos (by omega)]; try with_reducible rfl) | (rw [if_neg (by omega)]; try with_reducible rfl))
  try simp only [Act.put, List.setIfInBounds_toArray, List.set_cons_zero, List.set_cons_succ]
  refine rg_take (v := ?_) 6 rfl (by kernel_rfl) (by kernel_rfl) (by kernel_rfl) (fun _ _ _ h => h) (by rfl) ?_ ?_; rotate_left
  · (intro x hx; go_simp; first | done | with_reducible rfl | (rw [if_pos (by omega)]; try with_reducible rfl) | (rw [if_neg (by omega)]; try with_reducible rfl))
  try simp only [Act.put, List.setIfInBounds_toArray, List.set_cons_zero, List.set_cons_succ]
  refine rg_take (v := ?_) 7 rfl (by kernel_rfl) (by kernel_rfl) (by kernel_rfl) (fun _ _ _ h => h) (by rfl) ?_ ?_; rotate_left
  · (intro x hx; go_simp; first | done | with_reducible rfl | (rw [if_pos (by omega)]; try with_reducible rfl) | (rw [if_neg (by omega)]; try with_reducible rfl))
  try simp only [Act.put, List.setIfInBounds_toArray, List.set_cons_zero, List.set_cons_succ]
  refine rg_step 3 rfl (by kernel_rfl) (by rfl) (fun K hK => ?_)
  go_simp
  refine (cM1 _).mono ?_
  rintro e v2_0 ⟨rfl, p1⟩
  replace r0 := r0.trans (p1.mono r0.size)
  have f0 := Ext.cells (w := v2_0) (M := fun _ => False) (below_at r0 PI2 (heap_lt PI2)) (fun h => h)
  refine hK.out _ _ (Ext.below_all _ p1) ?_
  clear hK K; try simp only [Act.put, List.setIfInBounds_toArray, List.set_cons_zero, List.set_cons_succ]
  refine rg_step 4 rfl (by kernel_rfl) (by rfl) (fun K hK => ?_)
  go_simp
  refine (cL1 _).mono ?_
  rintro e v2_1 ⟨rfl, rfl⟩
  refine hK.out _ _ (Ext.refl _ _) ?_
  clear hK K; try simp only [Act.put, List.setIfInBounds_toArray, List.set_cons_zero, List.set_cons_succ]
  refine rg_take (v := ?_) 5 rfl (by kernel_rfl) (by kernel_rfl) (by kernel_rfl) (fun _ _ _ h => h) (by rfl) ?_ ?_; rotate_left
  · (intro x hx; go_simp; first | done | with_reducible rfl | (rw [if_pos (by omega)]; try with_reducible rfl) | (rw [if_neg (by omega)]; try with_reducible rfl))
  try simp only [Act.put, List.setIfInBounds_toArray, List.set_cons_zero, List.set_cons_succ]
  refine rg_step 8 rfl (by kernel_rfl) (by rfl) (fun K hK => ?_)
  go_simp
  refine (cM2 _).mono ?_
  rintro e v2_2 ⟨rfl, p1⟩
  replace r0 := r0.trans (p1.mono r0.size)
  have f0 := Ext.cells (w := v2_2) (M := fun _ => False) (below_at r0 PI2 (heap_lt PI2)) (fun h => h)
  refine hK.out _ _ (Ext.below_all _ p1) ?_
  clear hK K; try simp only [Act.put, List.setIfInBounds_toArray, List.set_cons_zero, List.set_cons_succ]
  refine rg_step 9 rfl (by kernel_rfl) (by rfl) (fun K hK => ?_)
  go_simp
  refine (cL2 _).mono ?_
  rintro e v2_3 ⟨rfl, rfl⟩
  refine hK.out _ _ (Ext.refl _ _) ?_
  clear hK K; try simp only [Act.put, List.setIfInBounds_toArray, List.set_cons_zero, List.set_cons_succ]
  refine rg_take (v := ?_) 10 rfl (by kernel_rfl) (by kernel_rfl) (by kernel_rfl) (fun _ _ _ h => h) (by rfl) ?_ ?_; rotate_left
  · (intro x hx; go_simp; first | done | with_reducible rfl | (rw [if_pos (by omega)]; try with_reducible rfl) | (rw [if_neg (by omega)]; try with_reducible rfl))
  try simp only [Act.put, List.setIfInBounds_toArray, List.set_cons_zero, List.set_cons_succ]
  refine rg_take (v := ?_) 11 rfl (by kernel_rfl) (by kernel_rfl) (by kernel_rfl) (fun _ _ _ h => h) (by rfl) ?_ ?_; rotate_left
  · (intro x hx; go_simp; first | done | with_reducible rfl | (rw [if_pos (by omega)]; try with_reducible rfl) | (rw [if_neg (by omega)]; try with_reducible rfl))
  try simp only [Act.put, List.setIfInBounds_toArray, List.set_cons_zero, List.set_cons_succ]
  refine rg_done (by kernel_rfl) ?_
  have I2 := I1.next r0
  clear I1 PI2 r0 f0 cM1 cL1 cM2 cL2 aA1 aS2 LS1
  go_upto_region 3 with fail
  obtain ⟨w2, hw2⟩ : ∃ y, v2_3 = y := ⟨_, rfl⟩
  rw [hw2] at I2 ⊢
  clear hw2
  obtain ⟨M1, hM1, lM1, cM1⟩ := addr_letter c.fst
  obtain ⟨L1, hL1, lL1, cL1⟩ := line_letter nFirst M1 (by decide) (by omega)
  obtain ⟨A1, hA1, lA1, aA1⟩ := add_letter S2 L1 (by omega)
  obtain ⟨M2, hM2, lM2, cM2⟩ := addr_letter c.lst
  obtain ⟨L2, hL2, lL2, cL2⟩ := line_letter nLast M2 (by decide) (by omega)
  obtain ⟨S3, hS3, lS3, aS3⟩ := add_letter A1 L2 (by omega)
  have HS3 := Lib.hid (show S3 = catL ([ln nLan (textN c.own c.lanB.toNat), ln nLanmac (textM c.lm), ln nWanmac (textM c.wm)] ++ [ln nFirst (textA c.fst), ln nLast (textA c.lst)]) by rw [hS3, hA1, hL1, hL2, hM1, hM2, HS2.out]; simp [catL])
  have LS3 : S3.length ≤ 800 := by omega
  clear hM1 hL1 hA1 hM2 hL2 hS3 lM1 lL1 lA1 lM2 lL2 lS3
  have PI3 := I2.P
  have r0 : Below w2.heap.size w2 w2.drew := (Below.refl _ _).drew
  have f0 := Ext.cells (w := w2.drew) (M := fun _ => False) PI3 (fun h => h)
  refine rg_begin (fun _ => False) (by kernel_rfl) ?_
  refine rg_take (v := ?_) 0 rfl (by kernel_rfl) (by kernel_rfl) (by kernel_rfl) (fun _ _ _ h => h) (by rfl) ?_ ?_; rotate_left
  · (intro x hx; go_simp; first | done | with_reducible rfl | (rw [if_pos (by omega)]; try with_reducible rfl) | (rw [if_neg (by omega)]; try with_reducible rfl))
  try simp only [Act.put, List.setIfInBounds_toArray, List.set_cons_zero, List.set_cons_succ]
  refine rg_take (v := ?_) 1 rfl (by kernel_rfl) (by kernel_rfl) (by kernel_rfl) (fun _ _ _ h => h) (by rfl) ?_ ?_; rotate_left
  · (intro x hx; go_simp; first | done | with_reducible rfl | (rw [if_pos (by omega)]; try with_reducible rfl) | (rw [if_neg (by omega)]; try with_reducible rfl))
  try simp only [Act.put, List.setIfInBounds_toArray, List.set_cons_zero, List.set_cons_succ]
  refine rg_take (v := ?_) 2 rfl (by kernel_rfl) (by kernel_rfl) (by kernel_rfl) (fun _ _ _ h => h) (by rfl) ?_ ?_; rotate_left
  · (intro x hx; go_simp; first | done | with_reducible rfl | (rw [if_pos (by omega)]; try with_reducible rfl) | (rw [if_neg (by omega)]; try with_reducible rfl))
  try simp only [Act.put, List.setIfInBounds_toArray, List.set_cons_zero, List.set_cons_succ]
  refine rg_take (v := ?_) 6 rfl (by kernel_rfl) (by kernel_rfl) (by kernel_rfl) (fun _ _ _ h => h) (by rfl) ?_ ?_; rotate_left
  · (intro x hx; go_simp; first | done | with_reducible rfl | (rw [if_pos (by omega)]; try with_reducible rfl) | (rw [if_neg (by omega)]; try with_reducible rfl))
  try simp only [Act.put, List.setIfInBounds_toArray, List.set_cons_zero, List.set_cons_succ]
  refine rg_take (v := ?_) 7 rfl (by kernel_rfl) (by kernel_rfl) (by kernel_rfl) (fun _ _ _ h => h) (by rfl) ?_ ?_; rotate_left
  · (intro x hx; go_simp; first | done | with_reducible rfl | (rw [if_pos (by omega)]; try with_reducible rfl) | (rw [if_neg (by omega)]; try with_reducible rfl))
  try simp only [Act.put, List.setIfInBounds_toArray, List.set_cons_zero, List.set_cons_succ]
  refine rg_step 3 rfl (by kernel_rfl) (by rfl) (fun K hK => ?_)
  go_simp
  refine (cM1 _).mono ?_
  rintro e v3_0 ⟨rfl, p1⟩
  replace r0 := r0.trans (p1.mono r0.size)
  have f0 := Ext.cells (w := v3_0) (M := fun _ => False) (below_at r0 PI3 (heap_lt PI3)) (fun h => h)
  refine hK.out _ _ (Ext.below_all _ p1) ?_
  clear hK K; try simp only [Act.put, List.setIfInBounds_toArray, List.set_cons_zero, List.set_cons_succ]
  refine rg_step 4 rfl (by kernel_rfl) (by rfl) (fun K hK => ?_)
  go_simp
  refine (cL1 _).mono ?_
  rintro e v3_1 ⟨rfl, rfl⟩
  refine hK.out _ _ (Ext.refl _ _) ?_
  clear hK K; try simp only [Act.put, List.setIfInBounds_toArray, List.set_cons_zero, List.set_cons_succ]
  refine rg_take (v := ?_) 5 rfl (by kernel_rfl) (by kernel_rfl) (by kernel_rfl) (fun _ _ _ h => h) (by rfl) ?_ ?_; rotate_left
  · (intro x hx; go_simp; first | done | with_reducible rfl | (rw [if_pos (by omega)]; try with_reducible rfl) | (rw [if_neg (by omega)]; try with_reducible rfl))
  try simp only [Act.put, List.setIfInBounds_toArray, List.set_cons_zero, List.set_cons_succ]
  refine rg_step 8 rfl (by kernel_rfl) (by rfl) (fun K hK => ?_)
  go_simp
  refine (cM2 _).mono ?_
  rintro e v3_2 ⟨rfl, p1⟩
  replace r0 := r0.trans (p1.mono r0.size)
  have f0 := Ext.cells (w := v3_2) (M := fun _ => False) (below_at r0 PI3 (heap_lt PI3)) (fun h => h)
  refine hK.out _ _ (Ext.below_all _ p1) ?_
  clear hK K; try simp only [Act.put, List.setIfInBounds_toArray, List.set_cons_zero, List.set_cons_succ]
  refine rg_step 9 rfl (by kernel_rfl) (by rfl) (fun K hK => ?_)
  go_simp
  refine (cL2 _).mono ?_
  rintro e v3_3 ⟨rfl, rfl⟩
  refine hK.out _ _ (Ext.refl _ _) ?_
  clear hK K; try simp only [Act.put, List.setIfInBounds_toArray, List.set_cons_zero, List.set_cons_succ]
  refine rg_take (v := ?_) 10 rfl (by kernel_rfl) (by kernel_rfl) (by kernel_rfl) (fun _ _ _ h => h) (by rfl) ?_ ?_; rotate_left
  · (intro x hx; go_simp; first | done | with_reducible rfl | (rw [if_pos (by omega)]; try with_reducible rfl) | (rw [if_neg (by omega)]; try with_reducible rfl))
  try simp only [Act.put, List.setIfInBounds_toArray, List.set_cons_zero, List.set_cons_succ]
  refine rg_take (v := ?_) 11 rfl (by kernel_rfl) (by kernel_rfl) (by kernel_rfl) (fun _ _ _ h => h) (by rfl) ?_ ?_; rotate_left
  · (intro x hx; go_simp; first | done | with_reducible rfl | (rw [if_pos (by omega)]; try with_reducible rfl) | (rw [if_neg (by omega)]; try with_reducible rfl))
  try simp only [Act.put, List.setIfInBounds_toArray, List.set_cons_zero, List.set_cons_succ]
  refine rg_done (by kernel_rfl) ?_
  have I3 := I2.next r0
  clear I2 PI3 r0 f0 cM1 cL1 cM2 cL2 aA1 aS3 LS2
  go_upto_region 4 with fail
  obtain ⟨w3, hw3⟩ : ∃ y, v3_3 = y := ⟨_, rfl⟩
  rw [hw3] at I3 ⊢
  clear hw3
  obtain ⟨L1, hL1, lL1, cL1⟩ := num_letter nTime c.time (by decide) HOK.out.t.1 (by have := HOK.out.t.2; omega)
  obtain ⟨A1, hA1, lA1, aA1⟩ := add_letter S3 L1 (by omega)
  obtain ⟨M2, hM2, lM2, cM2⟩ := addr_letter c.dns
  obtain ⟨L2, hL2, lL2, cL2⟩ := line_letter nDns M2 (by decide) (by omega)
  obtain ⟨S4, hS4, lS4, aS4⟩ := add_letter A1 L2 (by omega)
  have HS4 := Lib.hid (show S4 = catL ([ln nLan (textN c.own c.lanB.toNat), ln nLanmac (textM c.lm), ln nWanmac (textM c.wm), ln nFirst (textA c.fst), ln nLast (textA c.lst)] ++ [ln nTime (decB c.time.toNat), ln nDns (textA c.dns)]) by rw [hS4, hA1, hL1, hL2, hM2, HS3.out]; simp [catL])
  have LS4 : S4.length ≤ 1300 := by omega
  clear hL1 hA1 hM2 hL2 hS4 lL1 lA1 lM2 lL2 lS4
  have PI4 := I3.P
  have r0 : Below w3.heap.size w3 w3.drew := (Below.refl _ _).drew
  have f0 := Ext.cells (w := w3.drew) (M := fun _ => False) PI4 (fun h => h)
  refine rg_begin (fun _ => False) (by kernel_rfl) ?_
  refine rg_take (v := ?_) 0 rfl (by kernel_rfl) (by kernel_rfl) (by kernel_rfl) (fun _ _ _ h => h) (by rfl) ?_ ?_; rotate_left
  · (intro x hx; go_simp; first | done | with_reducible rfl | (rw [if_pos (by omega)]; try with_reducible rfl) | (rw [if_neg (by omega)]; try with_reducible rfl))
  try simp only [Act.put, List.setIfInBounds_toArray, List.set_cons_zero, List.set_cons_succ]
  refine rg_take (v := ?_) 1 rfl (by kernel_rfl) (by kernel_rfl) (by kernel_rfl) (fun _ _ _ h => h) (by rfl) ?_ ?_; rotate_left
  · (intro x hx; go_simp; first | done | with_reducible rfl | (rw [if_pos (by omega)]; try with_reducible rfl) | (rw [if_neg (by omega)]; try with_reducible rfl))
  try simp only [Act.put, List.setIfInBounds_toArray, List.set_cons_zero, List.set_cons_succ]
  refine rg_take (v := ?_) 2 rfl (by kernel_rfl) (by kernel_rfl) (by kernel_rfl) (fun _ _ _ h => h) (by rfl) ?_ ?_; rotate_left
  · (intro x hx; go_simp; first | done | with_reducible rfl | (rw [if_pos (by omega)]; try with_reducible rfl) | (rw [if_neg (by omega)]; try with_reducible rfl))
  try simp only [Act.put, List.setIfInBounds_toArray, List.set_cons_zero, List.set_cons_succ]
  refine rg_take (v := ?_) 5 rfl (by kernel_rfl) (by kernel_rfl) (by kernel_rfl) (fun _ _ _ h => h) (by rfl) ?_ ?_; rotate_left
  · (intro x hx; go_simp; first | done | with_reducible rfl | (rw [if_pos (by omega)]; try with_reducible rfl) | (rw [if_neg (by omega)]; try with_reducible rfl))
  try simp only [Act.put, List.setIfInBounds_toArray, List.set_cons_zero, List.set_cons_succ]
  refine rg_take (v := ?_) 6 rfl (by kernel_rfl) (by kernel_rfl) (by kernel_rfl) (fun _ _ _ h => h) (by rfl) ?_ ?_; rotate_left
  · (intro x hx; go_simp; first | done | with_reducible rfl | (rw [if_pos (by omega)]; try with_reducible rfl) | (rw [if_neg (by omega)]; try with_reducible rfl))
  try simp only [Act.put, List.setIfInBounds_toArray, List.set_cons_zero, List.set_cons_succ]
  refine rg_step 3 rfl (by kernel_rfl) (by rfl) (fun K hK => ?_)
  go_simp
  refine (cL1 _).mono ?_
  rintro e v4_0 ⟨rfl, p1⟩
  replace r0 := r0.trans (p1.mono r0.size)
  have f0 := Ext.cells (w := v4_0) (M := fun _ => False) (below_at r0 PI4 (heap_lt PI4)) (fun h => h)
  refine hK.out _ _ (Ext.below_all _ p1) ?_
  clear hK K; try simp only [Act.put, List.setIfInBounds_toArray, List.set_cons_zero, List.set_cons_succ]
  refine rg_take (v := ?_) 4 rfl (by kernel_rfl) (by kernel_rfl) (by kernel_rfl) (fun _ _ _ h => h) (by rfl) ?_ ?_; rotate_left
  · (intro x hx; go_simp; first | done | with_reducible rfl | (rw [if_pos (by omega)]; try with_reducible rfl) | (rw [if_neg (by omega)]; try with_reducible rfl))
  try simp only [Act.put, List.setIfInBounds_toArray, List.set_cons_zero, List.set_cons_succ]
  refine rg_step 7 rfl (by kernel_rfl) (by rfl) (fun K hK => ?_)
  go_simp
  refine (cM2 _).mono ?_
  rintro e v4_1 ⟨rfl, p1⟩
  replace r0 := r0.trans (p1.mono r0.size)
  have f0 := Ext.cells (w := v4_1) (M := fun _ => False) (below_at r0 PI4 (heap_lt PI4)) (fun h => h)
  refine hK.out _ _ (Ext.below_all _ p1) ?_
  clear hK K; try simp only [Act.put, List.setIfInBounds_toArray, List.set_cons_zero, List.set_cons_succ]
  refine rg_step 8 rfl (by kernel_rfl) (by rfl) (fun K hK => ?_)
  go_simp
  refine (cL2 _).mono ?_
  rintro e v4_2 ⟨rfl, rfl⟩
  refine hK.out _ _ (Ext.refl _ _) ?_
  clear hK K; try simp only [Act.put, List.setIfInBounds_toArray, List.set_cons_zero, List.set_cons_succ]
  refine rg_take (v := ?_) 9 rfl (by kernel_rfl) (by kernel_rfl) (by kernel_rfl) (fun _ _ _ h => h) (by rfl) ?_ ?_; rotate_left
  · (intro x hx; go_simp; first | done | with_reducible rfl | (rw [if_pos (by omega)]; try with_reducible rfl) | (rw [if_neg (by omega)]; try with_reducible rfl))
  try simp only [Act.put, List.setIfInBounds_toArray, List.set_cons_zero, List.set_cons_succ]
  refine rg_take (v := ?_) 10 rfl (by kernel_rfl) (by kernel_rfl) (by kernel_rfl) (fun _ _ _ h => h) (by rfl) ?_ ?_; rotate_left
  · (intro x hx; go_simp; first | done | with_reducible rfl | (rw [if_pos (by omega)]; try with_reducible rfl) | (rw [if_neg (by omega)]; try with_reducible rfl))
  try simp only [Act.put, List.setIfInBounds_toArray, List.set_cons_zero, List.set_cons_succ]
  refine rg_done (by kernel_rfl) ?_
  have I4 := I3.next r0
  clear I3 PI4 r0 f0 cL1 cM2 cL2 aA1 aS4 LS3
  go_upto_region 5 with fail
  obtain ⟨w4, hw4⟩ : ∃ y, v4_2 = y := ⟨_, rfl⟩
  rw [hw4] at I4 ⊢
  clear hw4
  obtain ⟨L1, hL1, lL1, cL1⟩ := num_letter nUdp c.udp (by decide) HOK.out.u.1 (by have := HOK.out.u.2; omega)
  obtain ⟨A1, hA1, lA1, aA1⟩ := add_letter S4 L1 (by omega)
  obtain ⟨L2, hL2, lL2, cL2⟩ := num_letter nTcp c.tcp (by decide) HOK.out.tc.1 (by have := HOK.out.tc.2; omega)
  obtain ⟨A2', hA2, lA2, aA2⟩ := add_letter A1 L2 (by omega)
  obtain ⟨L3, hL3, lL3, cL3⟩ := num_letter nIcmp c.icmp (by decide) HOK.out.ic.1 (by have := HOK.out.ic.2; omega)
  obtain ⟨A3, hA3, lA3, aA3⟩ := add_letter A2' L3 (by omega)
  obtain ⟨L4, hL4, lL4, cL4⟩ := num_letter nLow c.low (by decide) (by have := HOK.out.lw.1; omega) (by have := HOK.out.lw.2; omega)
  obtain ⟨S5, hS5, lS5, aS5⟩ := add_letter A3 L4 (by omega)
  have HS5 := Lib.hid (show S5 = catL (headL c) by rw [hS5, hA3, hA2, hA1, hL1, hL2, hL3, hL4, HS4.out]; simp [catL, headL])
  have LS5 : S5.length ≤ 3000 := by omega
  clear hL1 hA1 hL2 hA2 hL3 hA3 hL4 hS5 lL1 lA1 lL2 lA2 lL3 lA3 lL4 lS5 HS1 HS2 HS3 HS4
  have PI5 := I4.P
  have r0 : Below w4.heap.size w4 w4.drew := (Below.refl _ _).drew
  have f0 := Ext.cells (w := w4.drew) (M := fun _ => False) PI5 (fun h => h)
  refine rg_begin (fun _ => False) (by kernel_rfl) ?_
  refine rg_take (v := ?_) 0 rfl (by kernel_rfl) (by kernel_rfl) (by kernel_rfl) (fun _ _ _ h => h) (by rfl) ?_ ?_; rotate_left
  · (intro x hx; go_simp; first | done | with_reducible rfl | (rw [if_pos (by omega)]; try with_reducible rfl) | (rw [if_neg (by omega)]; try with_reducible rfl))
  try simp only [Act.put, List.setIfInBounds_toArray, List.set_cons_zero, List.set_cons_succ]
  refine rg_take (v := ?_) 1 rfl (by kernel_rfl) (by kernel_rfl) (by kernel_rfl) (fun _ _ _ h => h) (by rfl) ?_ ?_; rotate_left
  · (intro x hx; go_simp; first | done | with_reducible rfl | (rw [if_pos (by omega)]; try with_reducible rfl) | (rw [if_neg (by omega)]; try with_reducible rfl))
  try simp only [Act.put, List.setIfInBounds_toArray, List.set_cons_zero, List.set_cons_succ]
  refine rg_take (v := ?_) 2 rfl (by kernel_rfl) (by kernel_rfl) (by kernel_rfl) (fun _ _ _ h => h) (by rfl) ?_ ?_; rotate_left
  · (intro x hx; go_simp; first | done | with_reducible rfl | (rw [if_pos (by omega)]; try with_reducible rfl) | (rw [if_neg (by omega)]; try with_reducible rfl))
  try simp only [Act.put, List.setIfInBounds_toArray, List.set_cons_zero, List.set_cons_succ]
  refine rg_take (v := ?_) 5 rfl (by kernel_rfl) (by kernel_rfl) (by kernel_rfl) (fun _ _ _ h => h) (by rfl) ?_ ?_; rotate_left
  · (intro x hx; go_simp; first | done | with_reducible rfl | (rw [if_pos (by omega)]; try with_reducible rfl) | (rw [if_neg (by omega)]; try with_reducible rfl))
  try simp only [Act.put, List.setIfInBounds_toArray, List.set_cons_zero, List.set_cons_succ]
  refine rg_take (v := ?_) 6 rfl (by kernel_rfl) (by kernel_rfl) (by kernel_rfl) (fun _ _ _ h => h) (by rfl) ?_ ?_; rotate_left
  · (intro x hx; go_simp; first | done | with_reducible rfl | (rw [if_pos (by omega)]; try with_reducible rfl) | (rw [if_neg (by omega)]; try with_reducible rfl))
  try simp only [Act.put, List.setIfInBounds_toArray, List.set_cons_zero, List.set_cons_succ]
  refine rg_take (v := ?_) 9 rfl (by kernel_rfl) (by kernel_rfl) (by kernel_rfl) (fun _ _ _ h => h) (by rfl) ?_ ?_; rotate_left
  · (intro x hx; go_simp; first | done | with_reducible rfl | (rw [if_pos (by omega)]; try with_reducible rfl) | (rw [if_neg (by omega)]; try with_reducible rfl))
  try simp only [Act.put, List.setIfInBounds_toArray, List.set_cons_zero, List.set_cons_succ]
  refine rg_take (v := ?_) 10 rfl (by kernel_rfl) (by kernel_rfl) (by kernel_rfl) (fun _ _ _ h => h) (by rfl) ?_ ?_; rotate_left
  · (intro x hx; go_simp; first | done | with_reducible rfl | (rw [if_pos (by omega)]; try with_reducible rfl) | (rw [if_neg (by omega)]; try with_reducible rfl))
  try simp only [Act.put, List.setIfInBounds_toArray, List.set_cons_zero, List.set_cons_succ]
  refine rg_take (v := ?_) 13 rfl (by kernel_rfl) (by kernel_rfl) (by kernel_rfl) (fun _ _ _ h => h) (by rfl) ?_ ?_; rotate_left
  · (intro x hx; go_simp; first | done | with_reducible rfl | (rw [if_pos (by omega)]; try with_reducible rfl) | (rw [if_neg (by omega)]; try with_reducible rfl))
  try simp only [Act.put, List.setIfInBounds_toArray, List.set_cons_zero, List.set_cons_succ]
  refine rg_take (v := ?_) 14 rfl (by kernel_rfl) (by kernel_rfl) (by kernel_rfl) (fun _ _ _ h => h) (by rfl) ?_ ?_; rotate_left
  · (intro x hx; go_simp; first | done | with_reducible rfl | (rw [if_pos (by omega)]; try with_reducible rfl) | (rw [if_neg (by omega)]; try with_reducible rfl))
  try simp only [Act.put, List.setIfInBounds_toArray, List.set_cons_zero, List.set_cons_succ]
  refine rg_step 3 rfl (by kernel_rfl) (by rfl) (fun K hK => ?_)
  go_simp
  refine (cL1 _).mono ?_
  rintro e v5_0 ⟨rfl, p1⟩
  replace r0 := r0.trans (p1.mono r0.size)
  have f0 := Ext.cells (w := v5_0) (M := fun _ => False) (below_at r0 PI5 (heap_lt PI5)) (fun h => h)
  refine hK.out _ _ (Ext.below_all _ p1) ?_
  clear hK K; try simp only [Act.put, List.setIfInBounds_toArray, List.set_cons_zero, List.set_cons_succ]
  refine rg_take (v := ?_) 4 rfl (by kernel_rfl) (by kernel_rfl) (by kernel_rfl) (fun _ _ _ h => h) (by rfl) ?_ ?_; rotate_left
  · (intro x hx; go_simp; first | done | with_reducible rfl | (rw [if_pos (by omega)]; try with_reducible rfl) | (rw [if_neg (by omega)]; try with_reducible rfl))
  try simp only [Act.put, List.setIfInBounds_toArray, List.set_cons_zero, List.set_cons_succ]
  refine rg_step 7 rfl (by kernel_rfl) (by rfl) (fun K hK => ?_)
  go_simp
  refine (cL2 _).mono ?_
  rintro e v5_1 ⟨rfl, p1⟩
  replace r0 := r0.trans (p1.mono r0.size)
  have f0 := Ext.cells (w := v5_1) (M := fun _ => False) (below_at r0 PI5 (heap_lt PI5)) (fun h => h)
  refine hK.out _ _ (Ext.below_all _ p1) ?_
  clear hK K; try simp only [Act.put, List.setIfInBounds_toArray, List.set_cons_zero, List.set_cons_succ]
  refine rg_take (v := ?_) 8 rfl (by kernel_rfl) (by kernel_rfl) (by kernel_rfl) (fun _ _ _ h => h) (by rfl) ?_ ?_; rotate_left
  · (intro x hx; go_simp; first | done | with_reducible rfl | (rw [if_pos (by omega)]; try with_reducible rfl) | (rw [if_neg (by omega)]; try with_reducible rfl))
  try simp only [Act.put, List.setIfInBounds_toArray, List.set_cons_zero, List.set_cons_succ]
  refine rg_step 11 rfl (by kernel_rfl) (by rfl) (fun K hK => ?_)
  go_simp
  refine (cL3 _).mono ?_
  rintro e v5_2 ⟨rfl, p1⟩
  replace r0 := r0.trans (p1.mono r0.size)
  have f0 := Ext.cells (w := v5_2) (M := fun _ => False) (below_at r0 PI5 (heap_lt PI5)) (fun h => h)
  refine hK.out _ _ (Ext.below_all _ p1) ?_
  clear hK K; try simp only [Act.put, List.setIfInBounds_toArray, List.set_cons_zero, List.set_cons_succ]
  refine rg_take (v := ?_) 12 rfl (by kernel_rfl) (by kernel_rfl) (by kernel_rfl) (fun _ _ _ h => h) (by rfl) ?_ ?_; rotate_left
  · (intro x hx; go_simp; first | done | with_reducible rfl | (rw [if_pos (by omega)]; try with_reducible rfl) | (rw [if_neg (by omega)]; try with_reducible rfl))
  try simp only [Act.put, List.setIfInBounds_toArray, List.set_cons_zero, List.set_cons_succ]
  refine rg_step 15 rfl (by kernel_rfl) (by rfl) (fun K hK => ?_)
  go_simp
  refine (cL4 _).mono ?_
  rintro e v5_3 ⟨rfl, p1⟩
  replace r0 := r0.trans (p1.mono r0.size)
  have f0 := Ext.cells (w := v5_3) (M := fun _ => False) (below_at r0 PI5 (heap_lt PI5)) (fun h => h)
  refine hK.out _ _ (Ext.below_all _ p1) ?_
  clear hK K; try simp only [Act.put, List.setIfInBounds_toArray, List.set_cons_zero, List.set_cons_succ]
  refine rg_take (v := ?_) 16 rfl (by kernel_rfl) (by kernel_rfl) (by kernel_rfl) (fun _ _ _ h => h) (by rfl) ?_ ?_; rotate_left
  · (intro x hx; go_simp; first | done | with_reducible rfl | (rw [if_pos (by omega)]; try with_reducible rfl) | (rw [if_neg (by omega)]; try with_reducible rfl))
  try simp only [Act.put, List.setIfInBounds_toArray, List.set_cons_zero, List.set_cons_succ]
  refine rg_take (v := ?_) 17 rfl (by kernel_rfl) (by kernel_rfl) (by kernel_rfl) (fun _ _ _ h => h) (by rfl) ?_ ?_; rotate_left
  · (intro x hx; go_simp; first | done | with_reducible rfl | (rw [if_pos (by omega)]; try with_reducible rfl) | (rw [if_neg (by omega)]; try with_reducible rfl))
  try simp only [Act.put, List.setIfInBounds_toArray, List.set_cons_zero, List.set_cons_succ]
  refine rg_done (by kernel_rfl) ?_
  have I5 := I4.next r0
  clear I4 PI5 r0 f0 cL1 cL2 cL3 cL4 aA1 aA2 aA3 aS5 LS4
  obtain ⟨w5, hw5⟩ : ∃ y, v5_3 = y := ⟨_, rfl⟩
  rw [hw5] at I5 ⊢
  clear hw5
  go_wp2_with fail
  go_loopw [3, 4] (fun s v wr => ∃ (i : Nat) (X : List UInt8), s = .string (str X) ∧ v = .int .i64 i ∧ i ≤ n ∧ X = S5 ++ catL ((lf.map fxT).take i) ∧ X.length ≤ 3000 + 300 * i ∧ RxI w g (cfC c (.slice A n k) (.slice A2 n2 k2)) wr) (fun _ v _ => n - (intOf v).toNat)
  case atStart => exact ⟨0, S5, rfl, rfl, Nat.zero_le _, by simp [catL], by omega, I5⟩
  case round =>
    clear I5
    obtain ⟨i, X, rfl, rfl, hi, hX, hXl, I6⟩ := hrel
    have HX := Lib.hid hX
    clear hX
    rcases Nat.lt_or_ge i n with hlt | hge
    · obtain ⟨f, hf⟩ : ∃ f, lf[i]? = some f := ⟨lf[i]'(by have := HN.out.1; omega), List.getElem?_eq_getElem _⟩
      obtain ⟨b, o, rfl, hbk⟩ := fx_some HR.out.rf hf
      have hra := fun u (q : Below wr.heap.size wr u) => fx_range (HR.out.rf.below (I6.b.trans (q.mono I6.b.size))) hf
      have HFT := Lib.hid (show (lf.map fxT)[i]? = some (fxT f) by rw [List.getElem?_map, hf]; rfl)
      have hlti : decide ((i : Int) < (n : Int)) = true := decide_eq_true (by omega)
      have hnn : (0 : Int) ≤ (i : Int) ∧ (i : Int) < (n : Int) := by omega
      have w64 : IntKind.i64.wrap ((i : Int) + 1) = (i : Int) + 1 := IntWalk.i64_in _ (by have := HN32.out.1; omega)
      have HLT := Lib.hid hlt
      have hi32 : i ≤ 32 := by have := HN32.out.1; omega
      have P6 := I6.P
      have f6 := (cells_of P6).1
      clear hf hlt hi
      obtain ⟨M1, hM1, lM1, cM1⟩ := mac_letter f.m
      obtain ⟨U1, hU1, lU1, aU1⟩ := add_letter M1 [32] (by simp; omega)
      have lU1' : U1.length = M1.length + 1 := lU1
      have aU1' : ∀ w, (Op.stringOp .add (str M1) ⟨#[32]⟩).run Tryz.prog w = .ok (.string (str U1)) w := aU1
      obtain ⟨M2, hM2, lM2, cM2⟩ := addr_letter f.a
      obtain ⟨U2, hU2, lU2, aU2⟩ := add_letter U1 M2 (by omega)
      obtain ⟨L1, hL1, lL1, cL1⟩ := line_letter nFixed U2 (by decide) (by omega)
      obtain ⟨Y, hY, lY, aY⟩ := add_letter X L1 (by omega)
      have HY := Lib.hid (show Y = S5 ++ catL ((lf.map fxT).take (i + 1)) by rw [catL_take HFT.out, hY, HX.out, hL1, hU2, hU1, hM1, hM2]; simp [fxT])
      have LY : Y.length ≤ 3000 + 300 * (i + 1) := by omega
      clear hM1 hU1 hM2 hU2 hL1 hY lM1 lU1 lU1' lM2 lU2 lL1 lY aU1
      go_upto_region 9 with fail
      have r0 : Below wr.heap.size wr wr.drew := (Below.refl _ _).drew
      have KC : ∀ u, Below wr.heap.size wr u → ∀ j v, (fxC f).toList[j]? = some v → ∀ x, Ext (fun _ => False) u x → x.cell? ⟨b, o + i * 10 + j, none⟩ = some v := fun u q j v hj => Ext.cell (w := u) (hra u q j v hj) (fun h => h)
      have KP : ∀ u, Below wr.heap.size wr u → ∀ x, Ext (fun _ => False) u x → x.cell? ⟨g, 38, none⟩ = some (.slice (some ⟨b, o, none⟩) n k) := fun u q => Ext.cell (w := u) (M := fun _ => False) ((cells_of (below_at q P6 (heap_lt P6))).1 38) (fun h => h)
      have yy0 := KC _ r0 0 _ rfl
      have yy1 := KC _ r0 1 _ rfl
      have yy2 := KC _ r0 2 _ rfl
      have yy3 := KC _ r0 3 _ rfl
      have yy4 := KC _ r0 4 _ rfl
      have yy5 := KC _ r0 5 _ rfl
      have yy6 := KC _ r0 6 _ rfl
      have yy7 := KC _ r0 7 _ rfl
      have yy8 := KC _ r0 8 _ rfl
      have yy9 := KC _ r0 9 _ rfl
      rw [Nat.add_zero] at yy0
      have kP := KP _ r0
      have HKC := Lib.hid KC
      have HKP := Lib.hid KP
      clear hra KC KP f6
      refine rg_begin (fun _ => False) (by kernel_rfl) ?_
      refine rg_take (v := ?_) 0 rfl (by kernel_rfl) (by kernel_rfl) (by kernel_rfl) (fun _ _ _ h => h) (by rfl) ?_ ?_; rotate_left
      · (intro x hx; go_simp; first | done | with_reducible rfl | (rw [if_pos (by omega)]; try with_reducible rfl) | (rw [if_neg (by omega)]; try with_reducible rfl))
      try simp only [Act.put, List.setIfInBounds_toArray, List.set_cons_zero, List.set_cons_succ]
      refine rg_take (v := ?_) 1 rfl (by kernel_rfl) (by kernel_rfl) (by kernel_rfl) (fun _ _ _ h => h) (by rfl) ?_ ?_; rotate_left
      · (intro x hx; go_simp; first | done | with_reducible rfl | (rw [if_pos (by omega)]; try with_reducible rfl) | (rw [if_neg (by omega)]; try with_reducible rfl))
      try simp only [Act.put, List.setIfInBounds_toArray, List.set_cons_zero, List.set_cons_succ]
      refine rg_take (v := ?_) 2 rfl (by kernel_rfl) (by kernel_rfl) (by kernel_rfl) (fun _ _ _ h => h) (by rfl) ?_ ?_; rotate_left
      · (intro x hx; go_simp; first | done | with_reducible rfl | (rw [if_pos (by omega)]; try with_reducible rfl) | (rw [if_neg (by omega)]; try with_reducible rfl))
      try simp only [Act.put, List.setIfInBounds_toArray, List.set_cons_zero, List.set_cons_succ]
      refine rg_take (v := ?_) 3 rfl (by kernel_rfl) (by kernel_rfl) (by kernel_rfl) (fun _ _ _ h => h) (by rfl) ?_ ?_; rotate_left
      · (intro x hx; go_simp; first | done | with_reducible rfl | (rw [if_pos (by omega)]; try with_reducible rfl) | (rw [if_neg (by omega)]; try with_reducible rfl))
      try simp only [Act.put, List.setIfInBounds_toArray, List.set_cons_zero, List.set_cons_succ]
      refine rg_take (v := ?_) 4 rfl (by kernel_rfl) (by kernel_rfl) (by kernel_rfl) (fun _ _ _ h => h) (by rfl) ?_ ?_; rotate_left
      · (intro x hx; go_simp; first | done | with_reducible rfl | (rw [if_pos (by omega)]; try with_reducible rfl) | (rw [if_neg (by omega)]; try with_reducible rfl))
      try simp only [Act.put, List.setIfInBounds_toArray, List.set_cons_zero, List.set_cons_succ]
      refine rg_take (v := ?_) 5 rfl (by kernel_rfl) (by kernel_rfl) (by kernel_rfl) (fun _ _ _ h => h) (by rfl) ?_ ?_; rotate_left
      · (intro x hx; go_simp; first | done | with_reducible rfl | (rw [if_pos (by omega)]; try with_reducible rfl) | (rw [if_neg (by omega)]; try with_reducible rfl))
      try simp only [Act.put, List.setIfInBounds_toArray, List.set_cons_zero, List.set_cons_succ]
      refine rg_take (v := ?_) 6 rfl (by kernel_rfl) (by kernel_rfl) (by kernel_rfl) (fun _ _ _ h => h) (by rfl) ?_ ?_; rotate_left
      · (intro x hx; go_simp; first | done | with_reducible rfl | (rw [if_pos (by omega)]; try with_reducible rfl) | (rw [if_neg (by omega)]; try with_reducible rfl))
      try simp only [Act.put, List.setIfInBounds_toArray, List.set_cons_zero, List.set_cons_succ]
      refine rg_take (v := ?_) 9 rfl (by kernel_rfl) (by kernel_rfl) (by kernel_rfl) (fun _ _ _ h => h) (by rfl) ?_ ?_; rotate_left
      · (intro x hx; go_simp; first | done | with_reducible rfl | (rw [if_pos (by omega)]; try with_reducible rfl) | (rw [if_neg (by omega)]; try with_reducible rfl))
      try simp only [Act.put, List.setIfInBounds_toArray, List.set_cons_zero, List.set_cons_succ]
      refine rg_take (v := ?_) 10 rfl (by kernel_rfl) (by kernel_rfl) (by kernel_rfl) (fun _ _ _ h => h) (by rfl) ?_ ?_; rotate_left
      · (intro x hx; go_simp; first | done | with_reducible rfl | (rw [if_pos (by omega)]; try with_reducible rfl) | (rw [if_neg (by omega)]; try with_reducible rfl))
      try simp only [Act.put, List.setIfInBounds_toArray, List.set_cons_zero, List.set_cons_succ]
      refine rg_take (v := ?_) 11 rfl (by kernel_rfl) (by kernel_rfl) (by kernel_rfl) (fun _ _ _ h => h) (by rfl) ?_ ?_; rotate_left
      · (intro x hx; go_simp; first | done | with_reducible rfl | (rw [if_pos (by omega)]; try with_reducible rfl) | (rw [if_neg (by omega)]; try with_reducible rfl))
      try simp only [Act.put, List.setIfInBounds_toArray, List.set_cons_zero, List.set_cons_succ]
      refine rg_take (v := ?_) 12 rfl (by kernel_rfl) (by kernel_rfl) (by kernel_rfl) (fun _ _ _ h => h) (by rfl) ?_ ?_; rotate_left
      · (intro x hx; go_simp; first | done | with_reducible rfl | (rw [if_pos (by omega)]; try with_reducible rfl) | (rw [if_neg (by omega)]; try with_reducible rfl))
      try simp only [Act.put, List.setIfInBounds_toArray, List.set_cons_zero, List.set_cons_succ]
      refine rg_take (v := ?_) 13 rfl (by kernel_rfl) (by kernel_rfl) (by kernel_rfl) (fun _ _ _ h => h) (by rfl) ?_ ?_; rotate_left
      · (intro x hx; go_simp; first | done | with_reducible rfl | (rw [if_pos (by omega)]; try with_reducible rfl) | (rw [if_neg (by omega)]; try with_reducible rfl))
      try simp only [Act.put, List.setIfInBounds_toArray, List.set_cons_zero, List.set_cons_succ]
      refine rg_take (v := ?_) 14 rfl (by kernel_rfl) (by kernel_rfl) (by kernel_rfl) (fun _ _ _ h => h) (by rfl) ?_ ?_; rotate_left
      · (intro x hx; go_simp; first | done | with_reducible rfl | (rw [if_pos (by omega)]; try with_reducible rfl) | (rw [if_neg (by omega)]; try with_reducible rfl))
      try simp only [Act.put, List.setIfInBounds_toArray, List.set_cons_zero, List.set_cons_succ]
      refine rg_step 7 rfl (by kernel_rfl) (by rfl) (fun K hK => ?_)
      go_simp
      refine (cM1 _).mono ?_
      rintro e u1 ⟨rfl, p1⟩
      replace r0 := r0.trans (p1.mono r0.size)
      have yy6 := HKC.out _ r0 6 _ rfl
      have yy7 := HKC.out _ r0 7 _ rfl
      have yy8 := HKC.out _ r0 8 _ rfl
      have yy9 := HKC.out _ r0 9 _ rfl
      have kP := HKP.out _ r0
      refine hK.out _ _ (Ext.below_all _ p1) ?_
      clear hK K; try simp only [Act.put, List.setIfInBounds_toArray, List.set_cons_zero, List.set_cons_succ]
      refine rg_take (v := ?_) 8 rfl (by kernel_rfl) (by kernel_rfl) (by kernel_rfl) (fun _ _ _ h => h) (by rfl) ?_ ?_; rotate_left
      · (intro x hx; go_simp; first | done | with_reducible rfl | (rw [if_pos (by omega)]; try with_reducible rfl) | (rw [if_neg (by omega)]; try with_reducible rfl))
      try simp only [Act.put, List.setIfInBounds_toArray, List.set_cons_zero, List.set_cons_succ]
      refine rg_step 15 rfl (by kernel_rfl) (by rfl) (fun K hK => ?_)
      go_simp
      refine (cM2 _).mono ?_
      rintro e u2 ⟨rfl, p1⟩
      replace r0 := r0.trans (p1.mono r0.size)
      refine hK.out _ _ (Ext.below_all _ p1) ?_
      clear hK K; try simp only [Act.put, List.setIfInBounds_toArray, List.set_cons_zero, List.set_cons_succ]
      refine rg_take (v := ?_) 16 rfl (by kernel_rfl) (by kernel_rfl) (by kernel_rfl) (fun _ _ _ h => h) (by rfl) ?_ ?_; rotate_left
      · (intro x hx; go_simp; first | done | with_reducible rfl | (rw [if_pos (by omega)]; try with_reducible rfl) | (rw [if_neg (by omega)]; try with_reducible rfl))
      try simp only [Act.put, List.setIfInBounds_toArray, List.set_cons_zero, List.set_cons_succ]
      refine rg_step 17 rfl (by kernel_rfl) (by rfl) (fun K hK => ?_)
      go_simp
      refine (cL1 _).mono ?_
      rintro e u3 ⟨rfl, rfl⟩
      refine hK.out _ _ (Ext.refl _ _) ?_
      clear hK K; try simp only [Act.put, List.setIfInBounds_toArray, List.set_cons_zero, List.set_cons_succ]
      refine rg_take (v := ?_) 18 rfl (by kernel_rfl) (by kernel_rfl) (by kernel_rfl) (fun _ _ _ h => h) (by rfl) ?_ ?_; rotate_left
      · (intro x hx; go_simp; first | done | with_reducible rfl | (rw [if_pos (by omega)]; try with_reducible rfl) | (rw [if_neg (by omega)]; try with_reducible rfl))
      try simp only [Act.put, List.setIfInBounds_toArray, List.set_cons_zero, List.set_cons_succ]
      refine rg_take (v := ?_) 19 rfl (by kernel_rfl) (by kernel_rfl) (by kernel_rfl) (fun _ _ _ h => h) (by rfl) ?_ ?_; rotate_left
      · (intro x hx; go_simp; first | done | with_reducible rfl | (rw [if_pos (by omega)]; try with_reducible rfl) | (rw [if_neg (by omega)]; try with_reducible rfl))
      try simp only [Act.put, List.setIfInBounds_toArray, List.set_cons_zero, List.set_cons_succ]
      refine rg_done (by kernel_rfl) ?_
      have I7 := I6.next r0
      go_wp2_with fail
      go_roundw
      case rel => exact ⟨i + 1, Y, rfl, by push_cast; rfl, HLT.out, HY.out, LY, I7⟩
      case measure => have := HLT.out; simp [intOf]; omega
    · obtain rfl : i = n := by omega
      have hltn : decide ((i : Int) < (i : Int)) = false := decide_eq_false (by omega)
      have HX1 := Lib.hid (show X = catL (headL c ++ lf.map fxT) by rw [HX.out, HS5.out, catL_app, List.take_of_length_le (by have := HN.out.1; simp; omega)])
      have hX2 : X.length ≤ 13000 := by have := HN32.out.1; omega
      have P6 := I6.P
      have f6 := (cells_of P6).1
      clear HX hi hge hXl
      go_wp2_with fail
      clear f6 P6
      go_loopw [3, 5] (fun s v wr => ∃ (j : Nat) (Y : List UInt8), s = .string (str Y) ∧ v = .int .i64 j ∧ j ≤ n2 ∧ Y = X ++ catL ((lo.map opT).take j) ∧ Y.length ≤ 13000 + 300 * j ∧ RxI w g (cfC c (.slice A i k) (.slice A2 n2 k2)) wr) (fun _ v _ => n2 - (intOf v).toNat)
      case atStart => exact ⟨0, X, rfl, rfl, Nat.zero_le _, by simp [catL], by omega, I6⟩
      case round =>
        clear I6
        obtain ⟨j, Y, rfl, rfl, hj, hY, hYl, I7⟩ := hrel
        have HY := Lib.hid hY
        clear hY
        rcases Nat.lt_or_ge j n2 with hlt | hge
        · obtain ⟨f, hf⟩ : ∃ f, lo[j]? = some f := ⟨lo[j]'(by have := HN.out.2; omega), List.getElem?_eq_getElem _⟩
          obtain ⟨b, o, rfl, hbk⟩ := op_some HR.out.ro hf
          have hra := op_range (HR.out.ro.below I7.b) hf
          have HFT := Lib.hid (show (lo.map opT)[j]? = some (opT f) by rw [List.getElem?_map, hf]; rfl)
          have hok := HOK.out.op f (List.mem_iff_getElem?.2 ⟨j, hf⟩)
          have hpp : f.pr = 17 ∨ f.pr = 6 := by have h := hok.1; simpa [protB] using h
          have hlti : decide ((j : Int) < (n2 : Int)) = true := decide_eq_true (by omega)
          have hnn : (0 : Int) ≤ (j : Int) ∧ (j : Int) < (n2 : Int) := by omega
          have w64 : IntKind.i64.wrap ((j : Int) + 1) = (j : Int) + 1 := IntWalk.i64_in _ (by have := HN32.out.2; omega)
          have HLT := Lib.hid hlt
          have hj32 : j ≤ 32 := by have := HN32.out.2; omega
          have HLW := Lib.hid HOK.out.lw.2
          have P7 := I7.P
          have f7 := (cells_of P7).1
          obtain ⟨Q0, hQ0⟩ : ∃ q : List UInt8, prT f.pr ++ [32] = q := ⟨_, rfl⟩
          have lQ0 : Q0.length ≤ 4 := by rw [← hQ0, prT]; split <;> decide
          obtain ⟨D1, hD1, lD1, cD1⟩ := dec_letter f.po (by omega) (by have := HLW.out; omega)
          obtain ⟨U1, hU1, lU1, aU1⟩ := add_letter Q0 D1 (by omega)
          obtain ⟨U2, hU2, lU2, aU2⟩ := add_letter U1 [32] (by simp; omega)
          have lU2' : U2.length = U1.length + 1 := lU2
          have aU2' : ∀ w, (Op.stringOp .add (str U1) ⟨#[32]⟩).run Tryz.prog w = .ok (.string (str U2)) w := aU2
          obtain ⟨M2, hM2, lM2, cM2⟩ := addr_letter f.a
          obtain ⟨U3, hU3, lU3, aU3⟩ := add_letter U2 M2 (by omega)
          obtain ⟨U4, hU4, lU4, aU4⟩ := add_letter U3 [32] (by simp; omega)
          have lU4' : U4.length = U3.length + 1 := lU4
          have aU4' : ∀ w, (Op.stringOp .add (str U3) ⟨#[32]⟩).run Tryz.prog w = .ok (.string (str U4)) w := aU4
          obtain ⟨D2, hD2, lD2, cD2⟩ := dec_letter f.tp (by omega) (by omega)
          obtain ⟨U5, hU5, lU5, aU5⟩ := add_letter U4 D2 (by omega)
          obtain ⟨L1, hL1, lL1, cL1⟩ := line_letter nOpen U5 (by decide) (by omega)
          obtain ⟨Z, hZ, lZ, aZ⟩ := add_letter Y L1 (by omega)
          have HZ := Lib.hid (show Z = X ++ catL ((lo.map opT).take (j + 1)) by rw [catL_take HFT.out, hZ, HY.out, hL1, hU5, hU4, hU3, hU2, hU1, hD1, hD2, hM2, ← hQ0]; simp [opT])
          have LZ : Z.length ≤ 13000 + 300 * (j + 1) := by omega
          have HQ0 := Lib.hid hQ0
          clear hQ0 lQ0 hD1 lD1 hU1 lU1 hU2 lU2 lU2' aU2 hM2 lM2 hU3 lU3 hU4 lU4 lU4' aU4 hD2 lD2 hU5 lU5 hL1 lL1 hZ lZ hf hlt hj hok
          go_upto_region 14 with (first | ((with_reducible apply at_load_mid 72); (case hx => exact rfl); (case hc => exact hra); (case hu => exact Tryz.underlying72); (case hd => rfl); (case hi => kernel_rfl)) | ((with_reducible apply at_store_new 72); (case hx => exact rfl); (case hy => exact rfl); (case hg => first | rfl | simp); (case hi => kernel_rfl); (case hold => rfl); (case h1 => kernel_rfl)))
          have F8 := heap_alloc_new wr (.cells (opC f) 72)
          have I8 := I7.next ((Below.refl wr.heap.size wr).alloc (Nat.le_refl _) (.cells (opC f) 72))
          obtain ⟨gf, hgf⟩ : ∃ gf, wr.heap.size = gf := ⟨_, rfl⟩
          rw [hgf] at F8 ⊢
          generalize wr.alloc (.cells (opC f) 72) = w8 at F8 I8 ⊢
          clear f7 P7 I7 hgf hra
          have f8 := (cells_of F8).1
          rcases hpp with hp | hp
          case' inl =>
            have dp : (f.pr == 6) = false := by rw [hp]; rfl
            have HQ1 := Lib.hid (show (⟨#[117, 100, 112, 32]⟩ : ByteArray) = str Q0 by rw [← HQ0.out, prT, if_pos hp]; rfl)
          case' inr =>
            have dp : (f.pr == 6) = true := by rw [hp]; rfl
            have HQ1 := Lib.hid (show (⟨#[116, 99, 112, 32]⟩ : ByteArray) = str Q0 by rw [← HQ0.out, prT, if_neg (by omega)]; rfl)
          all_goals
            clear hp
            go_upto_region 17 with fail
            rw [HQ1.out]
            have r0 : Below w8.heap.size w8 w8.drew := (Below.refl _ _).drew
            have f0 := Ext.cells (w := w8.drew) (M := fun _ => False) F8 (fun h => h)
            clear f8 dp HQ1
            refine rg_begin (fun _ => False) (by kernel_rfl) ?_
            refine rg_take (v := ?_) 0 rfl (by kernel_rfl) (by kernel_rfl) (by kernel_rfl) (fun _ _ _ h => h) (by rfl) ?_ ?_; rotate_left
            · (intro x hx; go_simp; first | done | with_reducible rfl | (rw [if_pos (by omega)]; try with_reducible rfl) | (rw [if_neg (by omega)]; try with_reducible rfl))
            try simp only [Act.put, List.setIfInBounds_toArray, List.set_cons_zero, List.set_cons_succ]
            refine rg_take (v := ?_) 1 rfl (by kernel_rfl) (by kernel_rfl) (by kernel_rfl) (fun _ _ _ h => h) (by rfl) ?_ ?_; rotate_left
            · (intro x hx; go_simp; first | done | with_reducible rfl | (rw [if_pos (by omega)]; try with_reducible rfl) | (rw [if_neg (by omega)]; try with_reducible rfl))
            try simp only [Act.put, List.setIfInBounds_toArray, List.set_cons_zero, List.set_cons_succ]
            refine rg_take (v := ?_) 2 rfl (by kernel_rfl) (by kernel_rfl) (by kernel_rfl) (fun _ _ _ h => h) (by rfl) ?_ ?_; rotate_left
            · (intro x hx; go_simp; first | done | with_reducible rfl | (rw [if_pos (by omega)]; try with_reducible rfl) | (rw [if_neg (by omega)]; try with_reducible rfl))
            try simp only [Act.put, List.setIfInBounds_toArray, List.set_cons_zero, List.set_cons_succ]
            refine rg_take (v := ?_) 3 rfl (by kernel_rfl) (by kernel_rfl) (by kernel_rfl) (fun _ _ _ h => h) (by rfl) ?_ ?_; rotate_left
            · (intro x hx; go_simp; first | done | with_reducible rfl | (rw [if_pos (by omega)]; try with_reducible rfl) | (rw [if_neg (by omega)]; try with_reducible rfl))
            try simp only [Act.put, List.setIfInBounds_toArray, List.set_cons_zero, List.set_cons_succ]
            refine rg_take (v := ?_) 7 rfl (by kernel_rfl) (by kernel_rfl) (by kernel_rfl) (fun _ _ _ h => h) (by rfl) ?_ ?_; rotate_left
            · (intro x hx; go_simp; first | done | with_reducible rfl | (rw [if_pos (by omega)]; try with_reducible rfl) | (rw [if_neg (by omega)]; try with_reducible rfl))
            try simp only [Act.put, List.setIfInBounds_toArray, List.set_cons_zero, List.set_cons_succ]
            refine rg_take (v := ?_) 8 rfl (by kernel_rfl) (by kernel_rfl) (by kernel_rfl) (fun _ _ _ h => h) (by rfl) ?_ ?_; rotate_left
            · (intro x hx; go_simp; first | done | with_reducible rfl | (rw [if_pos (by omega)]; try with_reducible rfl) | (rw [if_neg (by omega)]; try with_reducible rfl))
            try simp only [Act.put, List.setIfInBounds_toArray, List.set_cons_zero, List.set_cons_succ]
            refine rg_take (v := ?_) 12 rfl (by kernel_rfl) (by kernel_rfl) (by kernel_rfl) (fun _ _ _ h => h) (by rfl) ?_ ?_; rotate_left
            · (intro x hx; go_simp; first | done | with_reducible rfl | (rw [if_pos (by omega)]; try with_reducible rfl) | (rw [if_neg (by omega)]; try with_reducible rfl))
            try simp only [Act.put, List.setIfInBounds_toArray, List.set_cons_zero, List.set_cons_succ]
            refine rg_take (v := ?_) 13 rfl (by kernel_rfl) (by kernel_rfl) (by kernel_rfl) (fun _ _ _ h => h) (by rfl) ?_ ?_; rotate_left
            · (intro x hx; go_simp; first | done | with_reducible rfl | (rw [if_pos (by omega)]; try with_reducible rfl) | (rw [if_neg (by omega)]; try with_reducible rfl))
            try simp only [Act.put, List.setIfInBounds_toArray, List.set_cons_zero, List.set_cons_succ]
            refine rg_step 4 rfl (by kernel_rfl) (by rfl) (fun K hK => ?_)
            go_simp
            refine (cD1 _).mono ?_
            rintro e u1 ⟨rfl, p1⟩
            replace r0 := r0.trans (p1.mono r0.size)
            have f0 := Ext.cells (w := u1) (M := fun _ => False) (below_at r0 F8 (heap_lt F8)) (fun h => h)
            refine hK.out _ _ (Ext.below_all _ p1) ?_
            clear hK K; try simp only [Act.put, List.setIfInBounds_toArray, List.set_cons_zero, List.set_cons_succ]
            refine rg_take (v := ?_) 5 rfl (by kernel_rfl) (by kernel_rfl) (by kernel_rfl) (fun _ _ _ h => h) (by rfl) ?_ ?_; rotate_left
            · (intro x hx; go_simp; first | done | with_reducible rfl | (rw [if_pos (by omega)]; try with_reducible rfl) | (rw [if_neg (by omega)]; try with_reducible rfl))
            try simp only [Act.put, List.setIfInBounds_toArray, List.set_cons_zero, List.set_cons_succ]
            refine rg_take (v := ?_) 6 rfl (by kernel_rfl) (by kernel_rfl) (by kernel_rfl) (fun _ _ _ h => h) (by rfl) ?_ ?_; rotate_left
            · (intro x hx; go_simp; first | done | with_reducible rfl | (rw [if_pos (by omega)]; try with_reducible rfl) | (rw [if_neg (by omega)]; try with_reducible rfl))
            try simp only [Act.put, List.setIfInBounds_toArray, List.set_cons_zero, List.set_cons_succ]
            refine rg_step 9 rfl (by kernel_rfl) (by rfl) (fun K hK => ?_)
            go_simp
            refine (cM2 _).mono ?_
            rintro e u2 ⟨rfl, p1⟩
            replace r0 := r0.trans (p1.mono r0.size)
            have f0 := Ext.cells (w := u2) (M := fun _ => False) (below_at r0 F8 (heap_lt F8)) (fun h => h)
            refine hK.out _ _ (Ext.below_all _ p1) ?_
            clear hK K; try simp only [Act.put, List.setIfInBounds_toArray, List.set_cons_zero, List.set_cons_succ]
            refine rg_take (v := ?_) 10 rfl (by kernel_rfl) (by kernel_rfl) (by kernel_rfl) (fun _ _ _ h => h) (by rfl) ?_ ?_; rotate_left
            · (intro x hx; go_simp; first | done | with_reducible rfl | (rw [if_pos (by omega)]; try with_reducible rfl) | (rw [if_neg (by omega)]; try with_reducible rfl))
            try simp only [Act.put, List.setIfInBounds_toArray, List.set_cons_zero, List.set_cons_succ]
            refine rg_take (v := ?_) 11 rfl (by kernel_rfl) (by kernel_rfl) (by kernel_rfl) (fun _ _ _ h => h) (by rfl) ?_ ?_; rotate_left
            · (intro x hx; go_simp; first | done | with_reducible rfl | (rw [if_pos (by omega)]; try with_reducible rfl) | (rw [if_neg (by omega)]; try with_reducible rfl))
            try simp only [Act.put, List.setIfInBounds_toArray, List.set_cons_zero, List.set_cons_succ]
            refine rg_step 14 rfl (by kernel_rfl) (by rfl) (fun K hK => ?_)
            go_simp
            refine (cD2 _).mono ?_
            rintro e u3 ⟨rfl, p1⟩
            replace r0 := r0.trans (p1.mono r0.size)
            refine hK.out _ _ (Ext.below_all _ p1) ?_
            clear hK K; try simp only [Act.put, List.setIfInBounds_toArray, List.set_cons_zero, List.set_cons_succ]
            refine rg_take (v := ?_) 15 rfl (by kernel_rfl) (by kernel_rfl) (by kernel_rfl) (fun _ _ _ h => h) (by rfl) ?_ ?_; rotate_left
            · (intro x hx; go_simp; first | done | with_reducible rfl | (rw [if_pos (by omega)]; try with_reducible rfl) | (rw [if_neg (by omega)]; try with_reducible rfl))
            try simp only [Act.put, List.setIfInBounds_toArray, List.set_cons_zero, List.set_cons_succ]
            refine rg_step 16 rfl (by kernel_rfl) (by rfl) (fun K hK => ?_)
            go_simp
            refine (cL1 _).mono ?_
            rintro e u4 ⟨rfl, rfl⟩
            refine hK.out _ _ (Ext.refl _ _) ?_
            clear hK K; try simp only [Act.put, List.setIfInBounds_toArray, List.set_cons_zero, List.set_cons_succ]
            refine rg_take (v := ?_) 17 rfl (by kernel_rfl) (by kernel_rfl) (by kernel_rfl) (fun _ _ _ h => h) (by rfl) ?_ ?_; rotate_left
            · (intro x hx; go_simp; first | done | with_reducible rfl | (rw [if_pos (by omega)]; try with_reducible rfl) | (rw [if_neg (by omega)]; try with_reducible rfl))
            try simp only [Act.put, List.setIfInBounds_toArray, List.set_cons_zero, List.set_cons_succ]
            refine rg_take (v := ?_) 18 rfl (by kernel_rfl) (by kernel_rfl) (by kernel_rfl) (fun _ _ _ h => h) (by rfl) ?_ ?_; rotate_left
            · (intro x hx; go_simp; first | done | with_reducible rfl | (rw [if_pos (by omega)]; try with_reducible rfl) | (rw [if_neg (by omega)]; try with_reducible rfl))
            try simp only [Act.put, List.setIfInBounds_toArray, List.set_cons_zero, List.set_cons_succ]
            refine rg_done (by kernel_rfl) ?_
            have I9 := I8.next r0
            clear f0 r0 F8 I8
            go_wp2_with fail
            go_roundw
            case rel => exact ⟨j + 1, Z, rfl, by push_cast; rfl, HLT.out, HZ.out, LZ, I9⟩
            case measure => have := HLT.out; simp [intOf]; omega
        · obtain rfl : j = n2 := by omega
          have hltn : decide ((j : Int) < (j : Int)) = false := decide_eq_false (by omega)
          have HY1 := Lib.hid (show Y = textG ⟨c, lf, lo⟩ by rw [HY.out, HX1.out, textG, linesG, List.take_of_length_le (by have := HN.out.2; simp; omega)]; simp [catL_app])
          have P7 := I7.P
          have f7 := (cells_of P7).1
          have b7 := I7.b
          clear HY hj hge hYl
          go_wp2_with fail
          go_ret
          exact ⟨by rw [HY1.out]; rfl, b7⟩
end Go.Proofs.YtnmdiageigbphaaGreatDoor
