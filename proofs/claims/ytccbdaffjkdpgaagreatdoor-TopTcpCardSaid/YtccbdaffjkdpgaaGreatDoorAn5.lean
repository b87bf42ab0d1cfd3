/-
  Numbers of addresses; nets (package addr).
-/
import Derived.Test.YtccbdaffjkdpgaaGreatDoorAn4
import Derived.LoopN
namespace Go.Proofs.YtccbdaffjkdpgaaGreatDoor
open Go.RowKit

def numA (a : Ad4) : Nat := ((a.a.toNat * 256 + a.b.toNat) * 256 + a.c.toNat) * 256 + a.d.toNat
theorem numA_lt (a : Ad4) : numA a < 4294967296 := by
  have := a.a.toNat_lt; have := a.b.toNat_lt; have := a.c.toNat_lt; have := a.d.toNat_lt
  unfold numA
  omega
theorem or32 (v b : Nat) (hv : v < 16777216) (hb : b < 256) : bits BinOp.or IntKind.u32 ((v : Int) * 256 % 4294967296) (b : Int) = ((v * 256 + b : Nat) : Int) := by
  have h := or_step v b hv hb
  rwa [show (b : Int) % 4294967296 = b by omega] at h
theorem idx4 (x0 x1 x2 x3 : Int) : (∀ w, (Instr.index 26 (.agg #[.int .u8 x0, .int .u8 x1, .int .u8 x2, .int .u8 x3]) (.int .i64 0)).run Tryz.prog w = .ok (.int .u8 x0) w) ∧
    (∀ w, (Instr.index 26 (.agg #[.int .u8 x0, .int .u8 x1, .int .u8 x2, .int .u8 x3]) (.int .i64 1)).run Tryz.prog w = .ok (.int .u8 x1) w) ∧
    (∀ w, (Instr.index 26 (.agg #[.int .u8 x0, .int .u8 x1, .int .u8 x2, .int .u8 x3]) (.int .i64 2)).run Tryz.prog w = .ok (.int .u8 x2) w) ∧
    (∀ w, (Instr.index 26 (.agg #[.int .u8 x0, .int .u8 x1, .int .u8 x2, .int .u8 x3]) (.int .i64 3)).run Tryz.prog w = .ok (.int .u8 x3) w) :=
  ⟨fun w => by kernel_rfl, fun w => by kernel_rfl, fun w => by kernel_rfl, fun w => by kernel_rfl⟩
set_option maxRecDepth 100000 in
set_option maxHeartbeats 1000000 in
theorem numa_any (w : World) (a : Ad4) : Calls Tryz.prog 151 #[adV a] w (fun e w' => e = .returned (.int .u32 (numA a)) ∧ Below w.heap.size w w') := by
  obtain ⟨a0, b0, c0, d0⟩ := a
  have h0 := a0.toNat_lt; have h1 := b0.toNat_lt; have h2 := c0.toNat_lt; have h3 := d0.toNat_lt
  show Calls _ _ #[.agg #[.int .u8 (a0.toNat : Int), .int .u8 (b0.toNat : Int), .int .u8 (c0.toNat : Int), .int .u8 (d0.toNat : Int)]] w (fun e w' => e = .returned (.int .u32 ((((a0.toNat * 256 + b0.toNat) * 256 + c0.toNat) * 256 + d0.toNat : Nat) : Int)) ∧ Below w.heap.size w w')
  generalize a0.toNat = x0 at *
  generalize b0.toNat = x1 at *
  generalize c0.toNat = x2 at *
  generalize d0.toNat = x3 at *
  have f0 : bits BinOp.or IntKind.u32 0 (x0 : Int) = (x0 : Int) := by
    have := or32 0 x0 (by decide) (by omega)
    simpa using this
  have f1 := or32 x0 x1 (by omega) (by omega)
  obtain ⟨n1, e1⟩ : ∃ n, x0 * 256 + x1 = n := ⟨_, rfl⟩
  rw [e1] at f1 ⊢
  have f2 := or32 n1 x2 (by omega) (by omega)
  obtain ⟨n2, e2⟩ : ∃ n, n1 * 256 + x2 = n := ⟨_, rfl⟩
  rw [e2] at f2 ⊢
  have f3 := or32 n2 x3 (by omega) (by omega)
  obtain ⟨n3, e3⟩ : ∃ n, n2 * 256 + x3 = n := ⟨_, rfl⟩
  rw [e3] at f3 ⊢
  have g1 : bits BinOp.or IntKind.u32 ((x0 : Int) * 256) (x1 : Int) = (n1 : Int) := by rw [← f1]; congr 1; omega
  have g2 : bits BinOp.or IntKind.u32 ((n1 : Int) * 256) (x2 : Int) = (n2 : Int) := by rw [← f2]; congr 1; omega
  have g3 : bits BinOp.or IntKind.u32 ((n2 : Int) * 256) (x3 : Int) = (n3 : Int) := by rw [← f3]; congr 1; omega
  have k1 : n1 < 65536 := by omega
  have k2 : n2 < 16777216 := by omega
  clear e1 e2 e3
  obtain ⟨i0, i1, i2, i3⟩ := idx4 x0 x1 x2 x3
  go_enter Tryz.func151, Tryz.ntmps151
  go_wp2_with fail
  refine wp_loop_rounds 5 ?_
  rw [rounds_succ]
  go_wp2_with fail
  rw [rounds_succ]
  go_wp2_with fail
  rw [rounds_succ]
  go_wp2_with fail
  rw [rounds_succ]
  go_wp2_with fail
  rw [rounds_succ]
  go_wp2_with fail
  go_ret
  exact ⟨rfl, by go_grown⟩

set_option maxRecDepth 100000 in
set_option maxHeartbeats 1000000 in
theorem ofa_any (w : World) (n : Int) (h0 : 0 ≤ n) (h1 : n < 4294967296) :
    Calls Tryz.prog 223 #[.int .u32 n] w (fun e w' => e = .returned (adV (of4 n)) ∧ Below w.heap.size w w') := by
  have e1 := bN_val (n / 16777216)
  have e2 := bN_val (n / 65536)
  have e3 := bN_val (n / 256)
  have e4 := bN_val n
  go_enter Tryz.func223, Tryz.ntmps223
  go_wp2_with ((with_reducible apply at_store_new 26); (case hx => exact rfl); (case hy => exact rfl); (case hg => first | rfl | simp); (case hi => kernel_rfl); (case hold => rfl); (case h1 => kernel_rfl))
  refine bodyPost_cell w.heap.size _ _ _ rfl rfl (heap_alloc_at rfl) Tryz.underlying26 rfl (by kernel_rfl) rfl ⟨?_, by go_grown⟩
  have e1' : ((bN (n / 16777216)).toNat : Int) = n / 16777216 := by omega
  show _ = Ending.returned (.agg #[.int .u8 ((bN (n / 16777216)).toNat : Int), .int .u8 ((bN (n / 65536)).toNat : Int), .int .u8 ((bN (n / 256)).toNat : Int), .int .u8 ((bN n).toNat : Int)])
  rw [e1', e2, e3, e4]

abbrev netC (a : Ad4) (b : Int) : Array Value := #[.int .u8 (a.a.toNat : Int), .int .u8 (a.b.toNat : Int), .int .u8 (a.c.toNat : Int), .int .u8 (a.d.toNat : Int), .int .i64 b]
abbrev netV (a : Ad4) (b : Int) : Value := .agg (netC a b)
/-- The bits that are a net's. -/
def clampB (b : Int) : Nat := (min (max b 0) 32).toNat
def behN (b : Int) : Nat := 2 ^ (32 - clampB b) - 1
theorem beh_low {b : Int} (h : b < 0) : behN b = 4294967295 := by
  rw [behN, show clampB b = 0 by unfold clampB; omega]
theorem beh_mid {b : Int} (k : Nat) (h : b = 32 - (k : Int)) (hk : k ≤ 32) : behN b = 2 ^ k - 1 := by
  rw [behN, show 32 - clampB b = k by unfold clampB; omega]
theorem beh_high {b : Int} (h : 32 < b) : behN b = 0 := by
  rw [behN, show clampB b = 32 by unfold clampB; omega]
theorem behN_lt (b : Int) : behN b < 4294967296 := by
  have : (2 : Nat) ^ (32 - clampB b) ≤ 2 ^ 32 := Nat.pow_le_pow_right (by decide) (by omega)
  unfold behN
  omega
theorem wrap64 (x : Int) : IntKind.u64.wrap x = x % 18446744073709551616 := by simp [IntKind.wrap, IntKind.bits, IntKind.signed]
set_option maxRecDepth 100000 in
set_option maxHeartbeats 1000000 in
theorem beh_any (w : World) (a : Ad4) (b : Int) : Calls Tryz.prog 224 #[netV a b] w (fun e w' => e = .returned (.int .u32 (behN b)) ∧ Below w.heap.size w w') := by
  by_cases c1 : b < 0
  · have H := Lib.hid (beh_low c1)
    have d1 : ¬ 32 < (0 : Int) := by decide
    go_enter Tryz.func224, Tryz.ntmps224
    go_wp2_with fail
    all_goals first
      | (exfalso; split at * <;> omega)
      | (go_ret
         refine ⟨?_, by go_grown⟩
         rw [H.out]
         rfl)
  · by_cases c2 : b ≤ 32
    · obtain ⟨k, hk, hk2⟩ : ∃ k : Nat, b = 32 - (k : Int) ∧ k ≤ 32 := ⟨(32 - b).toNat, by omega, by omega⟩
      have H := Lib.hid (beh_mid k hk hk2)
      have hp : (2 : Nat) ^ k ≤ 2 ^ 32 := Nat.pow_le_pow_right (by decide) hk2
      have hp1 : 1 ≤ (2 : Nat) ^ k := Nat.one_le_two_pow
      have hkk : (32 - b).toNat = k := by omega
      have h0 : 0 ≤ b := by omega
      have HP := Lib.hid (And.intro hp hp1)
      have HKK := Lib.hid hkk
      clear hk hp hp1 hkk c1
      go_enter Tryz.func224, Tryz.ntmps224
      go_wp2_with fail
      all_goals first
        | (exfalso; split at * <;> omega)
        | (exfalso; omega)
        | (go_ret
           refine ⟨?_, by go_grown⟩
           rw [H.out, wrap64, wrap64, HKK.out]
           obtain ⟨p, hp⟩ : ∃ p, (2 : Nat) ^ k = p := ⟨_, rfl⟩
           have e1 : (2 : Int) ^ k = (p : Int) := by rw [← hp]; simp
           have h2 := HP.out
           rw [hp] at h2
           rw [e1, hp]
           have e2 : ((p : Int) % 18446744073709551616 - 1) % 18446744073709551616 % 4294967296 = ((p - 1 : Nat) : Int) := by omega
           rw [← e2]
           rfl)
    · have H := Lib.hid (beh_high (show 32 < b by omega))
      have h0 : 0 ≤ b := by omega
      clear c1
      go_enter Tryz.func224, Tryz.ntmps224
      go_wp2_with fail
      all_goals first
        | (exfalso; split at * <;> omega)
        | (exfalso; omega)
        | (go_ret
           refine ⟨?_, by go_grown⟩
           rw [H.out]
           rfl)

/-- The first, the last address of a net; whether it has an address: by their numbers. -/
def firstN (x m : Nat) : Nat := x &&& (4294967295 - m)
def lastN (x m : Nat) : Nat := x ||| m
def hasN (x y m : Nat) : Bool := ((x ^^^ y) &&& (4294967295 - m)) == 0
set_option maxRecDepth 100000 in
set_option maxHeartbeats 1000000 in
theorem first_any (w : World) (a : Ad4) (b : Int) : Calls Tryz.prog 111 #[netV a b] w (fun e w' => e = .returned (adV (of4 (firstN (numA a) (behN b)))) ∧ Below w.heap.size w w') := by
  have hx := numA_lt a
  have hm := behN_lt b
  have ha : bits BinOp.andNot IntKind.u32 (numA a : Int) (behN b : Int) = (firstN (numA a) (behN b) : Int) := by rw [u32_andNot_nat _ _ hx hm]; rfl
  have HX := Lib.hid hx
  have HM := Lib.hid hm
  have P0 : ((w.alloc (.cells (netC a b) 72)).alloc (.cells z4 26)).heap[w.heap.size]? = some (.cells (netC a b) 72 (0, 0)) := heap_alloc_of (heap_alloc_new w _)
  have P1 : ((w.alloc (.cells (netC a b) 72)).alloc (.cells z4 26)).heap[w.heap.size + 1]? = some (.cells z4 26 (0, 0)) := heap_alloc_at (by simp)
  have b1 : Below w.heap.size w ((w.alloc (.cells (netC a b) 72)).alloc (.cells z4 26)) := ((Below.refl _ w).alloc (Nat.le_refl _) _).alloc (by simp) _
  clear hx hm
  go_enter Tryz.func111, Tryz.ntmps111
  go_upto_region 1 with fail
  generalize (w.alloc (.cells (netC a b) 72)).alloc (.cells z4 26) = w1 at P0 P1 b1 ⊢
  obtain ⟨g, hg⟩ : ∃ g, w.heap.size = g := ⟨_, rfl⟩
  rw [hg] at P0 P1 ⊢
  have HG := Lib.hid hg
  clear hg
  have r0 : Below w1.heap.size w1 w1.drew := (Below.refl _ _).drew
  have f0 := Ext.cells (w := w1.drew) (M := fun k => k = g + 1) P0 (by omega)
  have C3 := Ext.at_ (M := fun k => k = g + 1) (w := w1.drew) P0 (by omega)
  refine rg_begin (fun k => k = g + 1) (by kernel_rfl) ?_
  refine rg_take (v := ?_) 0 rfl (by kernel_rfl) (by kernel_rfl) (by kernel_rfl) (fun _ _ _ h => h) (by rfl) ?_ ?_; rotate_left
  · (intro x hx; go_simp; first | done | with_reducible rfl | (rw [if_pos (by omega)]; try with_reducible rfl) | (rw [if_neg (by omega)]; try with_reducible rfl))
  try simp only [Act.put, List.setIfInBounds_toArray, List.set_cons_zero, List.set_cons_succ]
  refine rg_take (v := ?_) 1 rfl (by kernel_rfl) (by kernel_rfl) (by kernel_rfl) (fun _ _ _ h => h) (by rfl) ?_ ?_; rotate_left
  · (intro x hx; go_simp; first | done | with_reducible rfl | (rw [if_pos (by omega)]; try with_reducible rfl) | (rw [if_neg (by omega)]; try with_reducible rfl))
  try simp only [Act.put, List.setIfInBounds_toArray, List.set_cons_zero, List.set_cons_succ]
  refine rg_take (v := .agg (netC a b)) 3 rfl (by kernel_rfl) (by kernel_rfl) (by kernel_rfl) (fun _ _ _ h => h) (by rfl) ?_ ?_
  · (intro x hx; apply run_load_big; (case ho => exact rfl); (case hv => exact rfl); (case hg => exact C3 x hx); (case hu => exact Tryz.underlying72); (case hd => rfl); (case hi => kernel_rfl))
  try simp only [Act.put, List.setIfInBounds_toArray, List.set_cons_zero, List.set_cons_succ]
  refine rg_step 2 rfl (by kernel_rfl) (by rfl) (fun K hK => ?_)
  go_simp
  refine (numa_any _ a).mono ?_
  rintro e w2 ⟨rfl, q2⟩
  have r2 := r0.trans (q2.mono r0.size)
  refine hK.out _ _ (Ext.below_all _ q2) ?_
  clear hK K; try simp only [Act.put, List.setIfInBounds_toArray, List.set_cons_zero, List.set_cons_succ]
  refine rg_step 4 rfl (by kernel_rfl) (by rfl) (fun K hK => ?_)
  go_simp
  refine (beh_any _ a b).mono ?_
  rintro e w3 ⟨rfl, q3⟩
  have r3 := r2.trans (q3.mono r2.size)
  refine hK.out _ _ (Ext.below_all _ q3) ?_
  clear hK K; try simp only [Act.put, List.setIfInBounds_toArray, List.set_cons_zero, List.set_cons_succ]
  refine rg_take (v := ?_) 5 rfl (by kernel_rfl) (by kernel_rfl) (by kernel_rfl) (fun _ _ _ h => h) (by rfl) ?_ ?_; rotate_left
  · (intro x hx; go_simp; first | done | with_reducible rfl | (rw [if_pos (by omega)]; try with_reducible rfl) | (rw [if_neg (by omega)]; try with_reducible rfl))
  try simp only [Act.put, List.setIfInBounds_toArray, List.set_cons_zero, List.set_cons_succ]
  refine rg_step 6 rfl (by kernel_rfl) (by rfl) (fun K hK => ?_)
  go_simp
  refine (ofa_any _ (firstN (numA a) (behN b)) (by omega) (by have := Nat.and_le_left (n := numA a) (m := 4294967295 - behN b); have := HX.out; unfold firstN; omega)).mono ?_
  rintro e w4 ⟨rfl, q4⟩
  have r4 := r3.trans (q4.mono r3.size)
  have P4 := below_at r4 P1 (heap_lt P1)
  refine hK.out _ _ (Ext.below_all _ q4) ?_
  clear hK K; try simp only [Act.put, List.setIfInBounds_toArray, List.set_cons_zero, List.set_cons_succ]
  refine rg_step 7 rfl (by kernel_rfl) (by rfl) (fun K hK => ?_)
  --RAW
  apply wp_store_part 26
  case ho => exact rfl
  case hx => exact rfl
  case hy => exact rfl
  case hg => exact P4
  case hle => simp
  case hi => kernel_rfl
  case h1 => kernel_rfl
  intro w5 g5 P5
  have r5 := below_grown (r4.mono (show g ≤ w1.heap.size by have := heap_lt P0; omega)) g5 (by have := r4.size; have := heap_lt P0; omega) (by omega)
  refine hK.out _ _ (Ext.of_grown (M := fun k => k = g + 1) g5 (fun k h => by injection h with h; omega)) ?_
  clear hK K
  refine rg_done (by kernel_rfl) ?_
  go_wp2_with fail
  refine bodyPost_cell (g + 1) _ _ _ rfl rfl P5 Tryz.underlying26 rfl (by kernel_rfl) rfl ⟨rfl, ?_⟩
  rw [HG.out]
  rw [HG.out] at b1
  exact b1.trans r5
set_option maxRecDepth 100000 in
set_option maxHeartbeats 1000000 in
theorem last_any (w : World) (a : Ad4) (b : Int) : Calls Tryz.prog 395 #[netV a b] w (fun e w' => e = .returned (adV (of4 (lastN (numA a) (behN b)))) ∧ Below w.heap.size w w') := by
  have hx := numA_lt a
  have hm := behN_lt b
  have ha : bits BinOp.or IntKind.u32 (numA a : Int) (behN b : Int) = (lastN (numA a) (behN b) : Int) := by rw [u32_or_nat _ _ hx hm]; rfl
  have HX := Lib.hid hx
  have HM := Lib.hid hm
  have P0 : ((w.alloc (.cells (netC a b) 72)).alloc (.cells z4 26)).heap[w.heap.size]? = some (.cells (netC a b) 72 (0, 0)) := heap_alloc_of (heap_alloc_new w _)
  have P1 : ((w.alloc (.cells (netC a b) 72)).alloc (.cells z4 26)).heap[w.heap.size + 1]? = some (.cells z4 26 (0, 0)) := heap_alloc_at (by simp)
  have b1 : Below w.heap.size w ((w.alloc (.cells (netC a b) 72)).alloc (.cells z4 26)) := ((Below.refl _ w).alloc (Nat.le_refl _) _).alloc (by simp) _
  clear hx hm
  go_enter Tryz.func395, Tryz.ntmps395
  go_upto_region 1 with fail
  generalize (w.alloc (.cells (netC a b) 72)).alloc (.cells z4 26) = w1 at P0 P1 b1 ⊢
  obtain ⟨g, hg⟩ : ∃ g, w.heap.size = g := ⟨_, rfl⟩
  rw [hg] at P0 P1 ⊢
  have HG := Lib.hid hg
  clear hg
  have r0 : Below w1.heap.size w1 w1.drew := (Below.refl _ _).drew
  have f0 := Ext.cells (w := w1.drew) (M := fun k => k = g + 1) P0 (by omega)
  have C3 := Ext.at_ (M := fun k => k = g + 1) (w := w1.drew) P0 (by omega)
  refine rg_begin (fun k => k = g + 1) (by kernel_rfl) ?_
  refine rg_take (v := ?_) 0 rfl (by kernel_rfl) (by kernel_rfl) (by kernel_rfl) (fun _ _ _ h => h) (by rfl) ?_ ?_; rotate_left
  · (intro x hx; go_simp; first | done | with_reducible rfl | (rw [if_pos (by omega)]; try with_reducible rfl) | (rw [if_neg (by omega)]; try with_reducible rfl))
  try simp only [Act.put, List.setIfInBounds_toArray, List.set_cons_zero, List.set_cons_succ]
  refine rg_take (v := ?_) 1 rfl (by kernel_rfl) (by kernel_rfl) (by kernel_rfl) (fun _ _ _ h => h) (by rfl) ?_ ?_; rotate_left
  · (intro x hx; go_simp; first | done | with_reducible rfl | (rw [if_pos (by omega)]; try with_reducible rfl) | (rw [if_neg (by omega)]; try with_reducible rfl))
  try simp only [Act.put, List.setIfInBounds_toArray, List.set_cons_zero, List.set_cons_succ]
  refine rg_take (v := .agg (netC a b)) 3 rfl (by kernel_rfl) (by kernel_rfl) (by kernel_rfl) (fun _ _ _ h => h) (by rfl) ?_ ?_
  · (intro x hx; apply run_load_big; (case ho => exact rfl); (case hv => exact rfl); (case hg => exact C3 x hx); (case hu => exact Tryz.underlying72); (case hd => rfl); (case hi => kernel_rfl))
  try simp only [Act.put, List.setIfInBounds_toArray, List.set_cons_zero, List.set_cons_succ]
  refine rg_step 2 rfl (by kernel_rfl) (by rfl) (fun K hK => ?_)
  go_simp
  refine (numa_any _ a).mono ?_
  rintro e w2 ⟨rfl, q2⟩
  have r2 := r0.trans (q2.mono r0.size)
  refine hK.out _ _ (Ext.below_all _ q2) ?_
  clear hK K; try simp only [Act.put, List.setIfInBounds_toArray, List.set_cons_zero, List.set_cons_succ]
  refine rg_step 4 rfl (by kernel_rfl) (by rfl) (fun K hK => ?_)
  go_simp
  refine (beh_any _ a b).mono ?_
  rintro e w3 ⟨rfl, q3⟩
  have r3 := r2.trans (q3.mono r2.size)
  refine hK.out _ _ (Ext.below_all _ q3) ?_
  clear hK K; try simp only [Act.put, List.setIfInBounds_toArray, List.set_cons_zero, List.set_cons_succ]
  refine rg_take (v := ?_) 5 rfl (by kernel_rfl) (by kernel_rfl) (by kernel_rfl) (fun _ _ _ h => h) (by rfl) ?_ ?_; rotate_left
  · (intro x hx; go_simp; first | done | with_reducible rfl | (rw [if_pos (by omega)]; try with_reducible rfl) | (rw [if_neg (by omega)]; try with_reducible rfl))
  try simp only [Act.put, List.setIfInBounds_toArray, List.set_cons_zero, List.set_cons_succ]
  refine rg_step 6 rfl (by kernel_rfl) (by rfl) (fun K hK => ?_)
  go_simp
  refine (ofa_any _ (lastN (numA a) (behN b)) (by omega) (by have := Nat.or_lt_two_pow (n := 32) HX.out HM.out; unfold lastN; omega)).mono ?_
  rintro e w4 ⟨rfl, q4⟩
  have r4 := r3.trans (q4.mono r3.size)
  have P4 := below_at r4 P1 (heap_lt P1)
  refine hK.out _ _ (Ext.below_all _ q4) ?_
  clear hK K; try simp only [Act.put, List.setIfInBounds_toArray, List.set_cons_zero, List.set_cons_succ]
  refine rg_step 7 rfl (by kernel_rfl) (by rfl) (fun K hK => ?_)
  --RAW
  apply wp_store_part 26
  case ho => exact rfl
  case hx => exact rfl
  case hy => exact rfl
  case hg => exact P4
  case hle => simp
  case hi => kernel_rfl
  case h1 => kernel_rfl
  intro w5 g5 P5
  have r5 := below_grown (r4.mono (show g ≤ w1.heap.size by have := heap_lt P0; omega)) g5 (by have := r4.size; have := heap_lt P0; omega) (by omega)
  refine hK.out _ _ (Ext.of_grown (M := fun k => k = g + 1) g5 (fun k h => by injection h with h; omega)) ?_
  clear hK K
  refine rg_done (by kernel_rfl) ?_
  go_wp2_with fail
  refine bodyPost_cell (g + 1) _ _ _ rfl rfl P5 Tryz.underlying26 rfl (by kernel_rfl) rfl ⟨rfl, ?_⟩
  rw [HG.out]
  rw [HG.out] at b1
  exact b1.trans r5
set_option maxRecDepth 100000 in
set_option maxHeartbeats 1000000 in
theorem has_any (w : World) (a : Ad4) (b : Int) (x : Ad4) : Calls Tryz.prog 193 #[netV a b, adV x] w (fun e w' => e = .returned (.bool (hasN (numA x) (numA a) (behN b))) ∧ Below w.heap.size w w') := by
  have hx := numA_lt a
  have hy := numA_lt x
  have hm := behN_lt b
  have hz : numA x ^^^ numA a < 4294967296 := Nat.xor_lt_two_pow (n := 32) hy hx
  have ha : bits BinOp.xor IntKind.u32 (numA x : Int) (numA a : Int) = ((numA x ^^^ numA a : Nat) : Int) := u32_xor_nat _ _ hy hx
  obtain ⟨z, e1⟩ : ∃ z, numA x ^^^ numA a = z := ⟨_, rfl⟩
  rw [e1] at ha hz
  have hb : bits BinOp.andNot IntKind.u32 (z : Int) (behN b : Int) = ((z &&& (4294967295 - behN b) : Nat) : Int) := u32_andNot_nat _ _ hz hm
  obtain ⟨v, e2⟩ : ∃ v, z &&& (4294967295 - behN b) = v := ⟨_, rfl⟩
  rw [e2] at hb
  have HV := Lib.hid (show ((v : Int) == 0) = hasN (numA x) (numA a) (behN b) by rw [hasN, e1, e2, Bool.eq_iff_iff]; simp)
  have P0 : ((w.alloc (.cells (netC a b) 72)).alloc (.cells (adC x) 26)).heap[w.heap.size]? = some (.cells (netC a b) 72 (0, 0)) := heap_alloc_of (heap_alloc_new w _)
  have P1 : ((w.alloc (.cells (netC a b) 72)).alloc (.cells (adC x) 26)).heap[w.heap.size + 1]? = some (.cells (adC x) 26 (0, 0)) := heap_alloc_at (by simp)
  have b1 : Below w.heap.size w ((w.alloc (.cells (netC a b) 72)).alloc (.cells (adC x) 26)) := ((Below.refl _ w).alloc (Nat.le_refl _) _).alloc (by simp) _
  clear hx hm hy hz e1 e2
  go_enter Tryz.func193, Tryz.ntmps193
  go_upto_region 1 with fail
  generalize (w.alloc (.cells (netC a b) 72)).alloc (.cells (adC x) 26) = w1 at P0 P1 b1 ⊢
  obtain ⟨g, hg⟩ : ∃ g, w.heap.size = g := ⟨_, rfl⟩
  rw [hg] at P0 P1 ⊢
  have HG := Lib.hid hg
  clear hg
  have r0 : Below w1.heap.size w1 w1.drew := (Below.refl _ _).drew
  have f0 := Ext.cells (w := w1.drew) (M := fun _ => False) P0 (fun h => h)
  have C0 := Ext.at_ (M := fun _ => False) (w := w1.drew) P1 (fun h => h)
  have C6 := Ext.at_ (M := fun _ => False) (w := w1.drew) P0 (fun h => h)
  refine rg_begin (fun _ => False) (by kernel_rfl) ?_
  refine rg_take (v := .agg (adC x)) 0 rfl (by kernel_rfl) (by kernel_rfl) (by kernel_rfl) (fun _ _ _ h => h) (by rfl) ?_ ?_
  · (intro x hx; apply run_load_big; (case ho => exact rfl); (case hv => exact rfl); (case hg => exact C0 x hx); (case hu => exact Tryz.underlying26); (case hd => rfl); (case hi => kernel_rfl))
  try simp only [Act.put, List.setIfInBounds_toArray, List.set_cons_zero, List.set_cons_succ]
  refine rg_take (v := ?_) 2 rfl (by kernel_rfl) (by kernel_rfl) (by kernel_rfl) (fun _ _ _ h => h) (by rfl) ?_ ?_; rotate_left
  · (intro x hx; go_simp; first | done | with_reducible rfl | (rw [if_pos (by omega)]; try with_reducible rfl) | (rw [if_neg (by omega)]; try with_reducible rfl))
  try simp only [Act.put, List.setIfInBounds_toArray, List.set_cons_zero, List.set_cons_succ]
  refine rg_take (v := ?_) 3 rfl (by kernel_rfl) (by kernel_rfl) (by kernel_rfl) (fun _ _ _ h => h) (by rfl) ?_ ?_; rotate_left
  · (intro x hx; go_simp; first | done | with_reducible rfl | (rw [if_pos (by omega)]; try with_reducible rfl) | (rw [if_neg (by omega)]; try with_reducible rfl))
  try simp only [Act.put, List.setIfInBounds_toArray, List.set_cons_zero, List.set_cons_succ]
  refine rg_take (v := .agg (netC a b)) 6 rfl (by kernel_rfl) (by kernel_rfl) (by kernel_rfl) (fun _ _ _ h => h) (by rfl) ?_ ?_
  · (intro x hx; apply run_load_big; (case ho => exact rfl); (case hv => exact rfl); (case hg => exact C6 x hx); (case hu => exact Tryz.underlying72); (case hd => rfl); (case hi => kernel_rfl))
  try simp only [Act.put, List.setIfInBounds_toArray, List.set_cons_zero, List.set_cons_succ]
  refine rg_step 1 rfl (by kernel_rfl) (by rfl) (fun K hK => ?_)
  go_simp
  refine (numa_any _ x).mono ?_
  rintro e w2 ⟨rfl, q2⟩
  have r2 := r0.trans (q2.mono r0.size)
  refine hK.out _ _ (Ext.below_all _ q2) ?_
  clear hK K; try simp only [Act.put, List.setIfInBounds_toArray, List.set_cons_zero, List.set_cons_succ]
  refine rg_step 4 rfl (by kernel_rfl) (by rfl) (fun K hK => ?_)
  go_simp
  refine (numa_any _ a).mono ?_
  rintro e w3 ⟨rfl, q3⟩
  have r3 := r2.trans (q3.mono r2.size)
  refine hK.out _ _ (Ext.below_all _ q3) ?_
  clear hK K; try simp only [Act.put, List.setIfInBounds_toArray, List.set_cons_zero, List.set_cons_succ]
  refine rg_take (v := ?_) 5 rfl (by kernel_rfl) (by kernel_rfl) (by kernel_rfl) (fun _ _ _ h => h) (by rfl) ?_ ?_; rotate_left
  · (intro x hx; go_simp; first | done | with_reducible rfl | (rw [if_pos (by omega)]; try with_reducible rfl) | (rw [if_neg (by omega)]; try with_reducible rfl))
  try simp only [Act.put, List.setIfInBounds_toArray, List.set_cons_zero, List.set_cons_succ]
  refine rg_step 7 rfl (by kernel_rfl) (by rfl) (fun K hK => ?_)
  go_simp
  refine (beh_any _ a b).mono ?_
  rintro e w4 ⟨rfl, q4⟩
  have r4 := r3.trans (q4.mono r3.size)
  refine hK.out _ _ (Ext.below_all _ q4) ?_
  clear hK K; try simp only [Act.put, List.setIfInBounds_toArray, List.set_cons_zero, List.set_cons_succ]
  refine rg_take (v := ?_) 8 rfl (by kernel_rfl) (by kernel_rfl) (by kernel_rfl) (fun _ _ _ h => h) (by rfl) ?_ ?_; rotate_left
  · (intro x hx; go_simp; first | done | with_reducible rfl | (rw [if_pos (by omega)]; try with_reducible rfl) | (rw [if_neg (by omega)]; try with_reducible rfl))
  try simp only [Act.put, List.setIfInBounds_toArray, List.set_cons_zero, List.set_cons_succ]
  refine rg_take (v := ?_) 9 rfl (by kernel_rfl) (by kernel_rfl) (by kernel_rfl) (fun _ _ _ h => h) (by rfl) ?_ ?_; rotate_left
  · (intro x hx; go_simp; first | done | with_reducible rfl | (rw [if_pos (by omega)]; try with_reducible rfl) | (rw [if_neg (by omega)]; try with_reducible rfl))
  try simp only [Act.put, List.setIfInBounds_toArray, List.set_cons_zero, List.set_cons_succ]
  refine rg_take (v := ?_) 10 rfl (by kernel_rfl) (by kernel_rfl) (by kernel_rfl) (fun _ _ _ h => h) (by rfl) ?_ ?_; rotate_left
  · (intro x hx; go_simp; first | done | with_reducible rfl | (rw [if_pos (by omega)]; try with_reducible rfl) | (rw [if_neg (by omega)]; try with_reducible rfl))
  try simp only [Act.put, List.setIfInBounds_toArray, List.set_cons_zero, List.set_cons_succ]
  refine rg_done (by kernel_rfl) ?_
  go_wp2_with fail
  go_ret
  refine ⟨?_, b1.trans (r4.mono b1.size)⟩
  rw [← HV.out]
  rfl
end Go.Proofs.YtccbdaffjkdpgaaGreatDoor
