/-
  The reference's numbers of addresses, nets.
-/
import Derived.Test.YtnmdiageigbphaaGreatDoorTq3
import Derived.Test.YtnmdiageigbphaaGreatDoorAt
import Derived.Test.YtnmdiageigbphaaGreatDoorRegion
namespace Go.Proofs.YtnmdiageigbphaaGreatDoor
open Go.RowKit

set_option maxRecDepth 100000 in
set_option maxHeartbeats 1000000 in
theorem rnum_any (w : World) (a : Ad4) : Calls Tryz.prog 26 #[adV a] w (fun e w' => e = .returned (.int .u32 (numA a)) ∧ Below w.heap.size w w') := by
  have b1 : Below w.heap.size w ((w.alloc (.cells (adC a) 24)).alloc (.cells (adC a) 5)) := ((Below.refl _ w).alloc (Nat.le_refl _) _).alloc (by simp) _
  have hs : BS ((w.alloc (.cells (adC a) 24)).alloc (.cells (adC a) 5)) ((w.alloc (.cells (adC a) 24)).alloc (.cells (adC a) 5)).heap.size (some ⟨w.heap.size + 1, 0, none⟩) 4 4 a.bytes :=
    BS.block a.bytes (heap_alloc_at (by simp)) rfl (by simp [maxLen, Ad4.bytes])
  go_enter Tryz.func26, Tryz.ntmps26
  go_wp2_with fail
  refine (at32_any _ _ 4 4 a.bytes 0 a.a a.b a.c a.d hs (by decide) (by decide) (by decide) rfl rfl rfl rfl).mono ?_
  rintro e w2 ⟨rfl, q2⟩
  go_wp2_with fail
  go_ret
  refine ⟨?_, b1.trans (q2.mono b1.size)⟩
  have e1 : (((((a.a.toNat * 256 + a.b.toNat) * 256 + a.c.toNat) * 256 + a.d.toNat : Nat) : Int)) = (((a.a.toNat : Int) * 256 + a.b.toNat) * 256 + a.c.toNat) * 256 + a.d.toNat := by simp
  rw [numA, e1]
  rfl
set_option maxRecDepth 100000 in
theorem rbits_any (w : World) (b : Int) : Calls Tryz.prog 71 #[.int .i64 b] w (fun e w' => e = .returned (.int .i64 (clampB b)) ∧ w' = w) := by
  by_cases c1 : b < 0
  · have d1 : decide (b < 0) = true := decide_eq_true c1
    have HC := Lib.hid (show ((clampB b : Nat) : Int) = 0 by unfold clampB; omega)
    go_enter Tryz.func71, Tryz.ntmps71
    go_wp2_with fail
    go_ret
    exact ⟨by rw [HC.out]; rfl, rfl⟩
  · have d1 : decide (b < 0) = false := decide_eq_false c1
    by_cases c2 : 32 < b
    · have d2 : decide (32 < b) = true := decide_eq_true c2
      have HC := Lib.hid (show ((clampB b : Nat) : Int) = 32 by unfold clampB; omega)
      go_enter Tryz.func71, Tryz.ntmps71
      go_wp2_with fail
      go_ret
      exact ⟨by rw [HC.out]; rfl, rfl⟩
    · have d2 : decide (32 < b) = false := decide_eq_false c2
      have HC := Lib.hid (show ((clampB b : Nat) : Int) = b by unfold clampB; omega)
      go_enter Tryz.func71, Tryz.ntmps71
      go_wp2_with fail
      go_ret
      exact ⟨by rw [HC.out]; rfl, rfl⟩

/-- How a number stands behind some rounds: the bits from 32-i up to 32-c are cleared (or set). -/
def Clr (x c i v : Nat) : Prop := v < 4294967296 ∧ ∀ t, v.testBit t = (x.testBit t && !decide (32 - i ≤ t ∧ t < 32 - c))
def Sts (x c i v : Nat) : Prop := v < 4294967296 ∧ ∀ t, v.testBit t = (x.testBit t || decide (32 - i ≤ t ∧ t < 32 - c))
theorem Clr.start {x c : Nat} (hx : x < 4294967296) : Clr x c c x := ⟨hx, fun t => by rw [show decide (32 - c ≤ t ∧ t < 32 - c) = false from decide_eq_false (by omega)]; simp⟩
theorem Sts.start {x c : Nat} (hx : x < 4294967296) : Sts x c c x := ⟨hx, fun t => by rw [show decide (32 - c ≤ t ∧ t < 32 - c) = false from decide_eq_false (by omega)]; simp⟩
theorem Clr.step {x c i v : Nat} (h : Clr x c i v) (hc : c ≤ i) (hi : i < 32) : Clr x c (i + 1) (v &&& (4294967295 - 2 ^ (31 - i))) := by
  refine ⟨Nat.lt_of_le_of_lt Nat.and_le_left h.1, fun t => ?_⟩
  have hp : (2 : Nat) ^ (31 - i) < 2 ^ 32 := Nat.pow_lt_pow_right (by decide) (by omega)
  rw [Nat.testBit_and, h.2 t, show 4294967295 - 2 ^ (31 - i) = 2 ^ 32 - (2 ^ (31 - i) + 1) by omega, Nat.testBit_two_pow_sub_succ hp, Nat.testBit_two_pow]
  rcases Nat.lt_or_ge t 32 with h3 | h3
  · by_cases e : 31 - i = t
    · simp [e, h3, show 32 - (i + 1) ≤ t ∧ t < 32 - c by omega]
    · have : (32 - (i + 1) ≤ t ∧ t < 32 - c) ↔ (32 - i ≤ t ∧ t < 32 - c) := by omega
      have hd : decide (32 - (i + 1) ≤ t ∧ t < 32 - c) = decide (32 - i ≤ t ∧ t < 32 - c) := by rw [Bool.eq_iff_iff, decide_eq_true_iff, decide_eq_true_iff]; exact this
      rw [hd]
      simp [e, h3]
  · have h4 : v.testBit t = false := Nat.testBit_lt_two_pow (Nat.lt_of_lt_of_le (show v < 2 ^ 32 from h.1) (Nat.pow_le_pow_right (by decide) h3))
    have h5 := h.2 t
    rw [h4, show decide (32 - i ≤ t ∧ t < 32 - c) = false from decide_eq_false (by omega)] at h5
    have h6 : x.testBit t = false := by simpa using h5.symm
    simp [h6]
theorem Sts.step {x c i v : Nat} (h : Sts x c i v) (hc : c ≤ i) (hi : i < 32) : Sts x c (i + 1) (v ||| 2 ^ (31 - i)) := by
  have hp : (2 : Nat) ^ (31 - i) < 2 ^ 32 := Nat.pow_lt_pow_right (by decide) (by omega)
  refine ⟨Nat.or_lt_two_pow (n := 32) h.1 hp, fun t => ?_⟩
  rw [Nat.testBit_or, h.2 t, Nat.testBit_two_pow]
  by_cases e : 31 - i = t
  · simp [e, show 32 - (i + 1) ≤ t ∧ t < 32 - c by omega]
  · have : (32 - (i + 1) ≤ t ∧ t < 32 - c) ↔ (32 - i ≤ t ∧ t < 32 - c) := by omega
    have hd : decide (32 - (i + 1) ≤ t ∧ t < 32 - c) = decide (32 - i ≤ t ∧ t < 32 - c) := by rw [Bool.eq_iff_iff, decide_eq_true_iff, decide_eq_true_iff]; exact this
    rw [hd]
    simp [e]
theorem Clr.fin {x c v : Nat} (h : Clr x c 32 v) (hc : c ≤ 32) (hx : x < 4294967296) : v = firstN x (2 ^ (32 - c) - 1) := by
  have hm : 2 ^ (32 - c) - 1 < 2 ^ 32 := by
    have h1 : (2 : Nat) ^ (32 - c) ≤ 2 ^ 32 := Nat.pow_le_pow_right (by decide) (by omega)
    have h2 : 1 ≤ (2 : Nat) ^ (32 - c) := Nat.one_le_two_pow
    omega
  apply Nat.eq_of_testBit_eq
  intro t
  rw [h.2 t, firstN, show 4294967295 - (2 ^ (32 - c) - 1) = 2 ^ 32 - ((2 ^ (32 - c) - 1) + 1) by omega, Nat.testBit_and, Nat.testBit_two_pow_sub_succ hm, Nat.testBit_two_pow_sub_one]
  rcases Nat.lt_or_ge t 32 with h3 | h3
  · simp [h3]
  · have : x.testBit t = false := Nat.testBit_lt_two_pow (Nat.lt_of_lt_of_le (show x < 2 ^ 32 from hx) (Nat.pow_le_pow_right (by decide) h3))
    simp [this]
theorem Sts.fin {x c v : Nat} (h : Sts x c 32 v) : v = lastN x (2 ^ (32 - c) - 1) := by
  apply Nat.eq_of_testBit_eq
  intro t
  rw [h.2 t, lastN, Nat.testBit_or, Nat.testBit_two_pow_sub_one]
  simp

abbrev rNetC (a : Ad4) (b : Int) : Array Value := #[.int .u8 (a.a.toNat : Int), .int .u8 (a.b.toNat : Int), .int .u8 (a.c.toNat : Int), .int .u8 (a.d.toNat : Int), .int .i64 b]
set_option maxRecDepth 100000 in
set_option maxHeartbeats 2000000 in
theorem rfirst_any (w : World) (a : Ad4) (b : Int) : Calls Tryz.prog 27 #[.agg (netC a b)] w (fun e w' => e = .returned (adV (firstA a b)) ∧ Below w.heap.size w w') := by
  have P0 : ((w.alloc (.cells (netC a b) 36)).alloc (.cells z4 24)).heap[w.heap.size]? = some (.cells (netC a b) 36 (0, 0)) := heap_alloc_of (heap_alloc_new w _)
  have R0 : ((w.alloc (.cells (netC a b) 36)).alloc (.cells z4 24)).heap[w.heap.size + 1]? = some (.cells z4 24 (0, 0)) := heap_alloc_at (by simp)
  have b0 : Below w.heap.size w ((w.alloc (.cells (netC a b) 36)).alloc (.cells z4 24)) := ((Below.refl _ w).alloc (Nat.le_refl _) _).alloc (by simp) _
  go_enter Tryz.func27, Tryz.ntmps27
  go_upto_region 1 with fail
  generalize (w.alloc (.cells (netC a b) 36)).alloc (.cells z4 24) = w0 at P0 R0 b0 ⊢
  obtain ⟨g, hg⟩ : ∃ g, w.heap.size = g := ⟨_, rfl⟩
  rw [hg] at P0 R0 ⊢
  have HG := Lib.hid hg
  clear hg
  obtain ⟨hc, _⟩ := cells_of P0
  go_wp2_with fail
  refine (rnum_any w0 a).mono ?_
  rintro e w1 ⟨rfl, q1⟩
  have P1 := below_at q1 P0 (heap_lt P0)
  have R1 := below_at q1 R0 (heap_lt R0)
  have b1 := b0.trans (q1.mono b0.size)
  clear hc P0 R0 b0 q1
  obtain ⟨hc, _⟩ := cells_of P1
  go_wp2_with fail
  refine (rbits_any w1 b).mono ?_
  rintro e w2 ⟨rfl, rfl⟩
  obtain ⟨x, hx⟩ : ∃ x, numA a = x := ⟨_, rfl⟩
  have hxl := numA_lt a
  have hcl : clampB b ≤ 32 := by unfold clampB; omega
  obtain ⟨c, hcc⟩ : ∃ c, clampB b = c := ⟨_, rfl⟩
  rw [hcc] at hcl ⊢
  rw [hx] at hxl ⊢
  have HF := Lib.hid (show firstN x (2 ^ (32 - c) - 1) = firstN (numA a) (behN b) by rw [behN, hx, hcc])
  have HXL := Lib.hid hxl
  clear hc hx hcc hxl
  go_wp2_with fail
  go_loopw [3, 4] (fun v iv wr => ∃ u i : Nat, v = .int .u32 u ∧ iv = .int .i64 i ∧ c ≤ i ∧ i ≤ 32 ∧ Clr x c i u ∧ wr = w2) (fun _ iv _ => 32 - (intOf iv).toNat)
  case atStart => exact ⟨x, c, rfl, rfl, Nat.le_refl _, hcl, Clr.start HXL.out, rfl⟩
  case round =>
    obtain ⟨u, i, rfl, rfl, hci, hi, hcl2, rfl⟩ := hrel
    have HC := Lib.hid hcl2
    have hul := hcl2.1
    clear hcl2
    by_cases hlt : i < 32
    · have hp : (2 : Nat) ^ (31 - i) < 2 ^ 32 := Nat.pow_lt_pow_right (by decide) (by omega)
      have hpz : (2 : Int) ^ (31 - i) % 4294967296 = ((2 ^ (31 - i) : Nat) : Int) := by
        obtain ⟨q, hq⟩ : ∃ q, (2 : Nat) ^ (31 - i) = q := ⟨_, rfl⟩
        rw [hq] at hp ⊢
        rw [show (2 : Int) ^ (31 - i) = (q : Int) by rw [← hq]; simp]
        omega
      have HA := Lib.hid (show bits BinOp.andNot IntKind.u32 (u : Int) ((2 : Int) ^ (31 - i) % 4294967296) = ((u &&& (4294967295 - 2 ^ (31 - i)) : Nat) : Int) by rw [hpz]; exact u32_andNot_nat _ _ hul hp)
      clear hpz hp
      go_wp2_with fail
      go_roundw
      case rel => exact ⟨_, i + 1, by rw [HA.out], by go_num, by omega, by omega, HC.out.step hci hlt, by first | rfl | trivial⟩
      case measure => simp [intOf]; omega
    · obtain rfl : i = 32 := by omega
      have HU := Lib.hid (show of4 (u : Int) = firstA a b by rw [firstA, ← HF.out, ← HC.out.fin hcl HXL.out])
      go_wp2_with fail
      refine (of4_any wr (u : Int) (by omega) (by omega)).mono ?_
      rintro e w3 ⟨rfl, q3⟩
      rw [HU.out]
      have R3 := below_at q3 R1 (heap_lt R1)
      have b3 := b1.trans (q3.mono b1.size)
      go_wp2_with ((with_reducible apply at_store_part 24); (case hx => exact rfl); (case hy => exact rfl); (case hg => exact R3); (case hle => simp); (case hi => kernel_rfl); (case h1 => kernel_rfl); (intro w9 g9 P9; replace P9 := Lib.hid P9))
      have P10 := P9.out
      refine bodyPost_cell (g + 1) _ _ _ rfl rfl P10 Tryz.underlying24 rfl (by kernel_rfl) rfl ?_
      exact ⟨rfl, below_grown b3 g9 b3.size (by have := HG.out; omega)⟩
set_option maxRecDepth 100000 in
set_option maxHeartbeats 2000000 in
theorem rlast_any (w : World) (a : Ad4) (b : Int) : Calls Tryz.prog 28 #[.agg (netC a b)] w (fun e w' => e = .returned (adV (lastA a b)) ∧ Below w.heap.size w w') := by
  have P0 : ((w.alloc (.cells (netC a b) 36)).alloc (.cells z4 24)).heap[w.heap.size]? = some (.cells (netC a b) 36 (0, 0)) := heap_alloc_of (heap_alloc_new w _)
  have R0 : ((w.alloc (.cells (netC a b) 36)).alloc (.cells z4 24)).heap[w.heap.size + 1]? = some (.cells z4 24 (0, 0)) := heap_alloc_at (by simp)
  have b0 : Below w.heap.size w ((w.alloc (.cells (netC a b) 36)).alloc (.cells z4 24)) := ((Below.refl _ w).alloc (Nat.le_refl _) _).alloc (by simp) _
  go_enter Tryz.func28, Tryz.ntmps28
  go_upto_region 1 with fail
  generalize (w.alloc (.cells (netC a b) 36)).alloc (.cells z4 24) = w0 at P0 R0 b0 ⊢
  obtain ⟨g, hg⟩ : ∃ g, w.heap.size = g := ⟨_, rfl⟩
  rw [hg] at P0 R0 ⊢
  have HG := Lib.hid hg
  clear hg
  obtain ⟨hc, _⟩ := cells_of P0
  go_wp2_with fail
  refine (rnum_any w0 a).mono ?_
  rintro e w1 ⟨rfl, q1⟩
  have P1 := below_at q1 P0 (heap_lt P0)
  have R1 := below_at q1 R0 (heap_lt R0)
  have b1 := b0.trans (q1.mono b0.size)
  clear hc P0 R0 b0 q1
  obtain ⟨hc, _⟩ := cells_of P1
  go_wp2_with fail
  refine (rbits_any w1 b).mono ?_
  rintro e w2 ⟨rfl, rfl⟩
  obtain ⟨x, hx⟩ : ∃ x, numA a = x := ⟨_, rfl⟩
  have hxl := numA_lt a
  have hcl : clampB b ≤ 32 := by unfold clampB; omega
  obtain ⟨c, hcc⟩ : ∃ c, clampB b = c := ⟨_, rfl⟩
  rw [hcc] at hcl ⊢
  rw [hx] at hxl ⊢
  have HF := Lib.hid (show lastN x (2 ^ (32 - c) - 1) = lastN (numA a) (behN b) by rw [behN, hx, hcc])
  have HXL := Lib.hid hxl
  clear hc hx hcc hxl
  go_wp2_with fail
  go_loopw [3, 4] (fun v iv wr => ∃ u i : Nat, v = .int .u32 u ∧ iv = .int .i64 i ∧ c ≤ i ∧ i ≤ 32 ∧ Sts x c i u ∧ wr = w2) (fun _ iv _ => 32 - (intOf iv).toNat)
  case atStart => exact ⟨x, c, rfl, rfl, Nat.le_refl _, hcl, Sts.start HXL.out, rfl⟩
  case round =>
    obtain ⟨u, i, rfl, rfl, hci, hi, hcl2, rfl⟩ := hrel
    have HC := Lib.hid hcl2
    have hul := hcl2.1
    clear hcl2
    by_cases hlt : i < 32
    · have hp : (2 : Nat) ^ (31 - i) < 2 ^ 32 := Nat.pow_lt_pow_right (by decide) (by omega)
      have hpz : (2 : Int) ^ (31 - i) % 4294967296 = ((2 ^ (31 - i) : Nat) : Int) := by
        obtain ⟨q, hq⟩ : ∃ q, (2 : Nat) ^ (31 - i) = q := ⟨_, rfl⟩
        rw [hq] at hp ⊢
        rw [show (2 : Int) ^ (31 - i) = (q : Int) by rw [← hq]; simp]
        omega
      have HA := Lib.hid (show bits BinOp.or IntKind.u32 (u : Int) ((2 : Int) ^ (31 - i) % 4294967296) = ((u ||| 2 ^ (31 - i) : Nat) : Int) by rw [hpz]; exact u32_or_nat _ _ hul hp)
      clear hpz hp
      go_wp2_with fail
      go_roundw
      case rel => exact ⟨_, i + 1, by rw [HA.out], by go_num, by omega, by omega, HC.out.step hci hlt, by first | rfl | trivial⟩
      case measure => simp [intOf]; omega
    · obtain rfl : i = 32 := by omega
      have HU := Lib.hid (show of4 (u : Int) = lastA a b by rw [lastA, ← HF.out, ← HC.out.fin])
      go_wp2_with fail
      refine (of4_any wr (u : Int) (by omega) (by omega)).mono ?_
      rintro e w3 ⟨rfl, q3⟩
      rw [HU.out]
      have R3 := below_at q3 R1 (heap_lt R1)
      have b3 := b1.trans (q3.mono b1.size)
      go_wp2_with ((with_reducible apply at_store_part 24); (case hx => exact rfl); (case hy => exact rfl); (case hg => exact R3); (case hle => simp); (case hi => kernel_rfl); (case h1 => kernel_rfl); (intro w9 g9 P9; replace P9 := Lib.hid P9))
      have P10 := P9.out
      refine bodyPost_cell (g + 1) _ _ _ rfl rfl P10 Tryz.underlying24 rfl (by kernel_rfl) rfl ?_
      exact ⟨rfl, below_grown b3 g9 b3.size (by have := HG.out; omega)⟩
theorem firstA_eq (a x : Ad4) (b : Int) : adeq (firstA a b) (firstA x b) = hasN (numA x) (numA a) (behN b) := by
  obtain ⟨k, hk, hb⟩ := beh_pow b
  have ha := numA_lt a
  have hx := numA_lt x
  have h1 : 1 ≤ (2 : Nat) ^ k := Nat.one_le_two_pow
  have e1 := firstN_eq (numA a) k ha hk
  have e2 := firstN_eq (numA x) k hx hk
  rw [Bool.eq_iff_iff, adeq_iff, hb, hasN_eq _ _ k hx ha hk, decide_eq_true_iff]
  constructor
  · intro h
    have h2 := congrArg numA h
    unfold firstA at h2
    rw [numA_of4 _ (first_lt _ _ ha), numA_of4 _ (first_lt _ _ hx), hb, e1, e2] at h2
    exact (Nat.eq_of_mul_eq_mul_right (by omega) h2).symm
  · intro h
    unfold firstA
    rw [hb, e1, e2, h]
set_option maxRecDepth 100000 in
set_option maxHeartbeats 2000000 in
theorem rhas_any (w : World) (a : Ad4) (b : Int) (x : Ad4) : Calls Tryz.prog 80 #[.agg (netC a b), adV x] w (fun e w' => e = .returned (.bool (hasN (numA x) (numA a) (behN b))) ∧ Below w.heap.size w w') := by
  have em := fun w => run_eql_ad w (firstA a b) (firstA x b)
  rw [firstA_eq] at em
  have P0 : ((w.alloc (.cells (netC a b) 36)).alloc (.cells (adC x) 24)).heap[w.heap.size]? = some (.cells (netC a b) 36 (0, 0)) := heap_alloc_of (heap_alloc_new w _)
  have X0 : ((w.alloc (.cells (netC a b) 36)).alloc (.cells (adC x) 24)).heap[w.heap.size + 1]? = some (.cells (adC x) 24 (0, 0)) := heap_alloc_at (by simp)
  have b0 : Below w.heap.size w ((w.alloc (.cells (netC a b) 36)).alloc (.cells (adC x) 24)) := ((Below.refl _ w).alloc (Nat.le_refl _) _).alloc (by simp) _
  go_enter Tryz.func80, Tryz.ntmps80
  go_upto_region 1 with fail
  generalize (w.alloc (.cells (netC a b) 36)).alloc (.cells (adC x) 24) = w0 at P0 X0 b0 ⊢
  obtain ⟨g, hg⟩ : ∃ g, w.heap.size = g := ⟨_, rfl⟩
  rw [hg] at P0 X0 ⊢
  have HG := Lib.hid hg
  clear hg
  have r0 : Below w0.heap.size w0 w0.drew := (Below.refl _ _).drew
  have f0 := Ext.cells (w := w0.drew) (M := fun _ => False) P0 (fun h => h)
  have CN := Ext.at_ (M := fun _ => False) (w := w0.drew) P0 (fun h => h)
  have CX := Ext.at_ (M := fun _ => False) (w := w0.drew) X0 (fun h => h)
  refine rg_begin (fun _ => False) (by kernel_rfl) ?_
  refine rg_take (v := .agg (netC a b)) 0 rfl (by kernel_rfl) (by kernel_rfl) (by kernel_rfl) (fun _ _ _ h => h) (by rfl) ?_ ?_
  · (intro x hx; apply run_load_big; (case ho => exact rfl); (case hv => exact rfl); (case hg => exact CN x hx); (case hu => exact Tryz.underlying36); (case hd => rfl); (case hi => kernel_rfl))
  try simp only [Act.put, List.setIfInBounds_toArray, List.set_cons_zero, List.set_cons_succ]
  refine rg_take (v := .agg (adC x)) 2 rfl (by kernel_rfl) (by kernel_rfl) (by kernel_rfl) (fun _ _ _ h => h) (by rfl) ?_ ?_
  · (intro x hx; apply run_load_big; (case ho => exact rfl); (case hv => exact rfl); (case hg => exact CX x hx); (case hu => exact Tryz.underlying24); (case hd => rfl); (case hi => kernel_rfl))
  try simp only [Act.put, List.setIfInBounds_toArray, List.set_cons_zero, List.set_cons_succ]
  refine rg_take (v := ?_) 3 rfl (by kernel_rfl) (by kernel_rfl) (by kernel_rfl) (fun _ _ _ h => h) (by rfl) ?_ ?_; rotate_left
  · (intro x hx; go_simp; first | done | with_reducible rfl | (rw [if_pos (by omega)]; try with_reducible rfl) | (rw [if_neg (by omega)]; try with_reducible rfl))
  try simp only [Act.put, List.setIfInBounds_toArray, List.set_cons_zero, List.set_cons_succ]
  refine rg_take (v := ?_) 4 rfl (by kernel_rfl) (by kernel_rfl) (by kernel_rfl) (fun _ _ _ h => h) (by rfl) ?_ ?_; rotate_left
  · (intro x hx; go_simp; first | done | with_reducible rfl | (rw [if_pos (by omega)]; try with_reducible rfl) | (rw [if_neg (by omega)]; try with_reducible rfl))
  try simp only [Act.put, List.setIfInBounds_toArray, List.set_cons_zero, List.set_cons_succ]
  refine rg_take (v := ?_) 5 rfl (by kernel_rfl) (by kernel_rfl) (by kernel_rfl) (fun _ _ _ h => h) (by rfl) ?_ ?_; rotate_left
  · (intro x hx; go_simp; first | done | with_reducible rfl | (rw [if_pos (by omega)]; try with_reducible rfl) | (rw [if_neg (by omega)]; try with_reducible rfl))
  try simp only [Act.put, List.setIfInBounds_toArray, List.set_cons_zero, List.set_cons_succ]
  refine rg_step 1 rfl (by kernel_rfl) (by rfl) (fun K hK => ?_)
  go_simp
  refine (rfirst_any _ a b).mono ?_
  rintro e w2 ⟨rfl, q2⟩
  have r2 := r0.trans (q2.mono r0.size)
  refine hK.out _ _ (Ext.below_all _ q2) ?_
  clear hK K; try simp only [Act.put, List.setIfInBounds_toArray, List.set_cons_zero, List.set_cons_succ]
  refine rg_step 6 rfl (by kernel_rfl) (by rfl) (fun K hK => ?_)
  go_simp
  refine (rfirst_any _ x b).mono ?_
  rintro e w3 ⟨rfl, q3⟩
  have r3 := r2.trans (q3.mono r2.size)
  refine hK.out _ _ (Ext.below_all _ q3) ?_
  clear hK K; try simp only [Act.put, List.setIfInBounds_toArray, List.set_cons_zero, List.set_cons_succ]
  refine rg_take (v := ?_) 7 rfl (by kernel_rfl) (by kernel_rfl) (by kernel_rfl) (fun _ _ _ h => h) (by rfl) ?_ ?_; rotate_left
  · (intro x hx; go_simp; first | done | with_reducible rfl | (rw [if_pos (by omega)]; try with_reducible rfl) | (rw [if_neg (by omega)]; try with_reducible rfl))
  try simp only [Act.put, List.setIfInBounds_toArray, List.set_cons_zero, List.set_cons_succ]
  refine rg_take (v := ?_) 8 rfl (by kernel_rfl) (by kernel_rfl) (by kernel_rfl) (fun _ _ _ h => h) (by rfl) ?_ ?_; rotate_left
  · (intro x hx; go_simp; first | done | with_reducible rfl | (rw [if_pos (by omega)]; try with_reducible rfl) | (rw [if_neg (by omega)]; try with_reducible rfl))
  try simp only [Act.put, List.setIfInBounds_toArray, List.set_cons_zero, List.set_cons_succ]
  refine rg_done (by kernel_rfl) ?_
  go_wp2_with fail
  go_ret
  exact ⟨rfl, by rw [HG.out] at b0 ⊢; exact b0.trans (r3.mono (by rw [← HG.out]; have := b0.size; omega))⟩
end Go.Proofs.YtnmdiageigbphaaGreatDoor
