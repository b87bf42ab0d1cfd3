/-
  The reference's hex and ParseMac.
-/
import Derived.Test.YtnmdiageigbphaaGreatDoorCq4
namespace Go.Proofs.YtnmdiageigbphaaGreatDoor
section
open Go.RowKit

def joinB (c : UInt8) : List (List UInt8) → List UInt8
  | [] => []
  | [p] => p
  | p :: q :: r => p ++ c :: joinB c (q :: r)
theorem join_cut (c : UInt8) : ∀ s : List UInt8, joinB c (cutB c s) = s
  | [] => rfl
  | x :: r => by
    have h := join_cut c r
    have hs := cutB_sum c r
    rw [cutB]
    match hq : cutB c r with
    | [] => rw [hq] at hs; simp at hs
    | p :: q =>
      rw [hq] at h
      split
      · rename_i hx
        rw [joinB, h, hx]
        rfl
      · rcases q with _ | ⟨q, t⟩
        · simp only [joinB] at h ⊢
          rw [h]
        · simp only [joinB, List.cons_append] at h ⊢
          rw [h]
def mOk (s : List UInt8) (i : Nat) : Bool := (hexD (s.getD (3 * i) 0).toNat).isSome && (hexD (s.getD (3 * i + 1) 0).toNat).isSome && (decide (5 ≤ i) || s.getD (3 * i + 2) 0 == 58)
def parts6 (s : List UInt8) : List (List UInt8) := [[s.getD 0 0, s.getD 1 0], [s.getD 3 0, s.getD 4 0], [s.getD 6 0, s.getD 7 0], [s.getD 9 0, s.getD 10 0], [s.getD 12 0, s.getD 13 0], [s.getD 15 0, s.getD 16 0]]
theorem parts6_get (s : List UInt8) (i : Nat) (h : i < 6) : (parts6 s).getD i [] = [s.getD (3 * i) 0, s.getD (3 * i + 1) 0] := by
  rcases (show i = 0 ∨ i = 1 ∨ i = 2 ∨ i = 3 ∨ i = 4 ∨ i = 5 by omega) with rfl | rfl | rfl | rfl | rfl | rfl <;> rfl
theorem pair_two (x y : UInt8) : pairOk [x, y] = ((hexD x.toNat).isSome && (hexD y.toNat).isSome) := by
  rcases hx : hexD x.toNat with _ | d
  · simp [pairOk, pairGo, hx]
  · rcases hy : hexD y.toNat with _ | e <;> simp [pairOk, pairGo, hx, hy]
theorem pair_val (x y : UInt8) {d e : Nat} (hx : hexD x.toNat = some d) (hy : hexD y.toNat = some e) : pairV [x, y] = 16 * d + e := by
  have h1 := hexD_le hx
  simp only [pairV, pairGo, hx, hy, Option.getD_some]
  omega
theorem pair_len {p : List UInt8} (h : pairOk p = true) : ∃ x y, p = [x, y] ∧ (hexD x.toNat).isSome = true ∧ (hexD y.toNat).isSome = true := by
  have h0 := h
  simp only [pairOk, Bool.and_eq_true, beq_iff_eq] at h
  match p, h.2 with
  | [x, y], _ =>
    rw [pair_two, Bool.and_eq_true] at h0
    exact ⟨x, y, rfl, h0.1, h0.2⟩
theorem macs_of {s : List UInt8} (h : (cutB 58 s).length = 6 ∧ okM (cutB 58 s) 6 = true) : s.length = 17 ∧ ∀ i < 6, mOk s i = true := by
  have hj := join_cut 58 s
  obtain ⟨h1, h2⟩ := h
  rw [okM_iff] at h2
  match hc : cutB 58 s, h1 with
  | [p0, p1, p2, p3, p4, p5], _ =>
    rw [hc] at h2 hj
    obtain ⟨a0, b0, rfl, ha0, hb0⟩ := pair_len (h2 0 (by decide))
    obtain ⟨a1, b1, rfl, ha1, hb1⟩ := pair_len (h2 1 (by decide))
    obtain ⟨a2, b2, rfl, ha2, hb2⟩ := pair_len (h2 2 (by decide))
    obtain ⟨a3, b3, rfl, ha3, hb3⟩ := pair_len (h2 3 (by decide))
    obtain ⟨a4, b4, rfl, ha4, hb4⟩ := pair_len (h2 4 (by decide))
    obtain ⟨a5, b5, rfl, ha5, hb5⟩ := pair_len (h2 5 (by decide))
    simp only [joinB, List.cons_append, List.nil_append] at hj
    subst hj
    refine ⟨rfl, fun i hi => ?_⟩
    rcases (show i = 0 ∨ i = 1 ∨ i = 2 ∨ i = 3 ∨ i = 4 ∨ i = 5 by omega) with rfl | rfl | rfl | rfl | rfl | rfl <;> simp [mOk, *]
theorem mac_long {s : List UInt8} (h : s.length ≠ 17) : parseMV s = (mac0, 9) := parseM_no fun hh => h (macs_of hh).1
theorem mac_bad {s : List UInt8} {i : Nat} (hi : i < 6) (h : mOk s i = false) : parseMV s = (mac0, 9) := parseM_no fun hh => by
  have := (macs_of hh).2 i hi
  rw [h] at this
  cases this
theorem hexD_no (x : UInt8) (h : (hexD x.toNat).isSome = true) : x ≠ 58 := by
  rintro rfl
  revert h
  decide
theorem list17 {s : List UInt8} (h : s.length = 17) : s = [s.getD 0 0, s.getD 1 0, s.getD 2 0, s.getD 3 0, s.getD 4 0, s.getD 5 0, s.getD 6 0, s.getD 7 0, s.getD 8 0, s.getD 9 0, s.getD 10 0, s.getD 11 0, s.getD 12 0, s.getD 13 0, s.getD 14 0, s.getD 15 0, s.getD 16 0] := by
  match s, h with
  | [a0, a1, a2, a3, a4, a5, a6, a7, a8, a9, a10, a11, a12, a13, a14, a15, a16], _ => rfl
theorem cut_two {x y : UInt8} {r : List UInt8} (hx : (hexD x.toNat).isSome = true) (hy : (hexD y.toNat).isSome = true) : cutB 58 (x :: y :: 58 :: r) = [x, y] :: cutB 58 r := by
  refine cutB_cons 58 r [x, y] fun z hz => ?_
  simp at hz
  rcases hz with rfl | rfl
  · exact hexD_no _ hx
  · exact hexD_no _ hy
theorem mac_in {s : List UInt8} (hl : s.length = 17) (h : ∀ i < 6, mOk s i = true) : parseMV s = (macL (parts6 s), 0) := by
  have hc : cutB 58 s = parts6 s := by
    have k0 := h 0 (by decide); have k1 := h 1 (by decide); have k2 := h 2 (by decide); have k3 := h 3 (by decide); have k4 := h 4 (by decide); have k5 := h 5 (by decide)
    have e := list17 hl
    simp only [mOk, Bool.and_eq_true, Bool.or_eq_true, beq_iff_eq, decide_eq_true_eq] at k0 k1 k2 k3 k4 k5
    obtain ⟨⟨x0, y0⟩, c0⟩ := k0
    obtain ⟨⟨x1, y1⟩, c1⟩ := k1
    obtain ⟨⟨x2, y2⟩, c2⟩ := k2
    obtain ⟨⟨x3, y3⟩, c3⟩ := k3
    obtain ⟨⟨x4, y4⟩, c4⟩ := k4
    obtain ⟨⟨x5, y5⟩, _⟩ := k5
    have c0 : s.getD 2 0 = 58 := c0.resolve_left (by decide)
    have c1 : s.getD 5 0 = 58 := c1.resolve_left (by decide)
    have c2 : s.getD 8 0 = 58 := c2.resolve_left (by decide)
    have c3 : s.getD 11 0 = 58 := c3.resolve_left (by decide)
    have c4 : s.getD 14 0 = 58 := c4.resolve_left (by decide)
    rw [c0, c1, c2, c3, c4] at e
    refine (congrArg (cutB 58) e).trans ?_
    rw [cut_two x0 y0, cut_two x1 y1, cut_two x2 y2, cut_two x3 y3, cut_two x4 y4, cutB_none 58 _ (fun z hz => by
      simp only [List.mem_cons, List.not_mem_nil, or_false] at hz
      rcases hz with rfl | rfl
      · exact hexD_no _ x5
      · exact hexD_no _ y5)]
    rfl
  have ho : okM (parts6 s) 6 = true := okM_iff.2 fun i hi => by
    rw [parts6_get s i hi, pair_two]
    have := h i hi
    simp only [mOk, Bool.and_eq_true] at this
    rw [this.1.1, this.1.2]
    rfl
  rw [← hc] at ho ⊢
  exact parseM_yes ⟨by rw [hc]; rfl, ho⟩
def hexI (x : UInt8) : Int := match hexD x.toNat with
  | some d => d
  | none => -1
theorem hexI_yes {x : UInt8} {d : Nat} (h : hexD x.toNat = some d) : hexI x = d := by rw [hexI, h]
theorem hexI_no {x : UInt8} (h : hexD x.toNat = none) : hexI x = -1 := by rw [hexI, h]
set_option maxHeartbeats 1000000 in
theorem rhex_any (w : World) (x : UInt8) : Calls Tryz.prog 99 #[.int .u8 (x.toNat : Int)] w (RnP w (hexI x)) := by
  have hxl := x.toNat_lt
  have H := Lib.hid (show hexD x.toNat = hexD x.toNat from rfl)
  have fu : ∀ n : Int, 0 ≤ n ∧ n ≤ 255 → IntKind.u8.wrap n = n := fun n h => IntWalk.u8_in n h
  rcases (show x.toNat < 48 ∨ (48 ≤ x.toNat ∧ x.toNat ≤ 57) ∨ (57 < x.toNat ∧ x.toNat < 65) ∨ (65 ≤ x.toNat ∧ x.toNat ≤ 70) ∨ (70 < x.toNat ∧ x.toNat < 97) ∨ (97 ≤ x.toNat ∧ x.toNat ≤ 102) ∨ 102 < x.toNat by omega) with h | h | h | h | h | h | h
  case' inl => have HV := Lib.hid (hexI_no (x := x) (by rw [hexD, if_neg (by omega), if_neg (by omega), if_neg (by omega)]))
  case' inr.inl => have HV := Lib.hid (hexI_yes (x := x) (by rw [hexD, if_pos (by omega)]))
  case' inr.inr.inl => have HV := Lib.hid (hexI_no (x := x) (by rw [hexD, if_neg (by omega), if_neg (by omega), if_neg (by omega)]))
  case' inr.inr.inr.inl => have HV := Lib.hid (hexI_yes (x := x) (by rw [hexD, if_neg (by omega), if_neg (by omega), if_pos (by omega)]))
  case' inr.inr.inr.inr.inl => have HV := Lib.hid (hexI_no (x := x) (by rw [hexD, if_neg (by omega), if_neg (by omega), if_neg (by omega)]))
  case' inr.inr.inr.inr.inr.inl => have HV := Lib.hid (hexI_yes (x := x) (by rw [hexD, if_neg (by omega), if_pos (by omega)]))
  case' inr.inr.inr.inr.inr.inr => have HV := Lib.hid (hexI_no (x := x) (by rw [hexD, if_neg (by omega), if_neg (by omega), if_neg (by omega)]))
  all_goals
    first
      | have d1 : decide (48 ≤ (x.toNat : Int)) = true := decide_eq_true (by omega)
      | have d1 : decide (48 ≤ (x.toNat : Int)) = false := decide_eq_false (by omega)
    first
      | have d2 : decide ((x.toNat : Int) ≤ 57) = true := decide_eq_true (by omega)
      | have d2 : decide ((x.toNat : Int) ≤ 57) = false := decide_eq_false (by omega)
    first
      | have d3 : decide (65 ≤ (x.toNat : Int)) = true := decide_eq_true (by omega)
      | have d3 : decide (65 ≤ (x.toNat : Int)) = false := decide_eq_false (by omega)
    first
      | have d4 : decide ((x.toNat : Int) ≤ 70) = true := decide_eq_true (by omega)
      | have d4 : decide ((x.toNat : Int) ≤ 70) = false := decide_eq_false (by omega)
    first
      | have d5 : decide (97 ≤ (x.toNat : Int)) = true := decide_eq_true (by omega)
      | have d5 : decide (97 ≤ (x.toNat : Int)) = false := decide_eq_false (by omega)
    first
      | have d6 : decide ((x.toNat : Int) ≤ 102) = true := decide_eq_true (by omega)
      | have d6 : decide ((x.toNat : Int) ≤ 102) = false := decide_eq_false (by omega)
    go_enter Tryz.func99, Tryz.ntmps99
    go_wp2_with fail
    go_ret
    refine ⟨?_, rfl⟩
    rw [HV.out]
    first | rfl | (simp; omega) | (rw [fu _ (by omega)]; simp; omega) | (congr 2; omega)
end
section
open Go.RowKit

def RPMPost (w : World) (s : List UInt8) (e : Ending) (w' : World) : Prop := e = .returned (.tuple #[macV (parseMV s).1, .bool (decide ((parseMV s).2 = 0))]) ∧ Below w.heap.size w w'
theorem mOk_of {s : List UInt8} {j : Nat} {x y : UInt8} {d e : Nat} (hx : s.getD (3 * j) 0 = x) (hy : s.getD (3 * j + 1) 0 = y) (h1 : hexD x.toNat = some d) (h2 : hexD y.toNat = some e) (h3 : 5 ≤ j ∨ s.getD (3 * j + 2) 0 = 58) : mOk s j = true := by
  simp only [mOk, hx, hy, h1, h2, Option.isSome_some, Bool.true_and, Bool.or_eq_true, decide_eq_true_eq, beq_iff_eq]
  exact h3
theorem mOk_x {s : List UInt8} {j : Nat} {x : UInt8} (hx : s.getD (3 * j) 0 = x) (h1 : hexD x.toNat = none) : mOk s j = false := by
  simp only [mOk, hx, h1]
  rfl
theorem mOk_y {s : List UInt8} {j : Nat} {y : UInt8} (hy : s.getD (3 * j + 1) 0 = y) (h1 : hexD y.toNat = none) : mOk s j = false := by
  simp only [mOk, hy, h1]
  simp
theorem mOk_z {s : List UInt8} {j : Nat} {z : UInt8} (hz : s.getD (3 * j + 2) 0 = z) (h1 : z ≠ 58) (h2 : j < 5) : mOk s j = false := by
  simp only [mOk, hz, Bool.and_eq_false_iff]
  right
  simp [h1, h2]
set_option maxRecDepth 100000 in
set_option maxHeartbeats 4000000 in
theorem rParseMac_any (w : World) (s : List UInt8) (hl : s.length ≤ 1099511627776) : Calls Tryz.prog 68 #[.string (str s)] w (RPMPost w s) := by
  have hss : (str s).size = s.length := rfl
  have b0 : Below w.heap.size w (w.alloc (.cells z6 28)) := (Below.refl _ w).alloc (Nat.le_refl _) _
  have P0 : (w.alloc (.cells z6 28)).heap[w.heap.size]? = some (.cells z6 28 (0, 0)) := heap_alloc_new w _
  obtain ⟨g, hg⟩ : ∃ g, w.heap.size = g := ⟨_, rfl⟩
  by_cases c1 : s.length = 17
  case neg =>
    have d1 : ((s.length : Int) != 17) = true := by rw [bne_iff_ne]; omega
    have HV := Lib.hid (mac_long c1)
    clear c1
    go_enter Tryz.func68, Tryz.ntmps68
    go_upto_region 1 with fail
    generalize w.alloc (.cells z6 28) = w1 at b0 P0 ⊢
    rw [hg] at P0
    have HG := Lib.hid hg
    clear hg
    go_wp2_with ((with_reducible apply at_store_part 28); (case hx => exact rfl); (case hy => exact rfl); (case hg => exact P0); (case hle => simp); (case hi => kernel_rfl); (case h1 => kernel_rfl); (intro w3 g3 P3; replace P3 := Lib.hid P3))
    refine bodyPost_cell_tmp g _ _ _ rfl rfl P3.out Tryz.underlying28 rfl (by kernel_rfl) rfl ?_
    exact ⟨by rw [HV.out]; rfl, below_grown b0 g3 b0.size (by have := HG.out; omega)⟩
  have d1 : ((s.length : Int) != 17) = false := by rw [c1]; rfl
  have HL := Lib.hid c1
  clear c1
  go_enter Tryz.func68, Tryz.ntmps68
  go_upto_region 1 with fail
  generalize w.alloc (.cells z6 28) = w2 at b0 P0 ⊢
  rw [hg] at P0
  have HG := Lib.hid hg
  clear hg
  go_upto_region 3 with fail
  go_upto_region 4 with ((with_reducible apply at_store_new 28); (case hx => exact rfl); (case hy => exact rfl); (case hg => first | rfl | simp); (case hi => kernel_rfl); (case hold => rfl); (case h1 => kernel_rfl))
  have Pa := heap_alloc_new w2 (.cells z6 28)
  have P3 := heap_alloc_of (o := .cells z6 28) P0
  have b3 := b0.alloc b0.size (.cells z6 28)
  have hgk : g < w2.heap.size := heap_lt P0
  obtain ⟨k, hk⟩ : ∃ k, w2.heap.size = k := ⟨_, rfl⟩
  have HKS := Lib.hid (show k < (w2.alloc (.cells z6 28)).heap.size by simp; omega)
  have hb3 := b3.size
  rw [hk] at Pa hgk ⊢
  clear hk P0 b0
  generalize w2.alloc (.cells z6 28) = wl at Pa P3 b3 HKS hb3 ⊢
  have PA := Lib.hid Pa
  clear Pa
  obtain ⟨ps, hps⟩ : ∃ ps, parts6 s = ps := ⟨_, rfl⟩
  have HPS := Lib.hid hps
  clear hps
  go_wp2_with fail
  go_loopw [5] (fun iv wr => ∃ j : Nat, iv = .int .i64 j ∧ j ≤ 6 ∧ (∀ i < j, mOk s i = true) ∧ wr.heap[k]? = some (.cells (mpC ps j) 28 (0, 0)) ∧ wl.grownBy wr (some k)) (fun iv _ => 6 - (intOf iv).toNat)
  case atStart => exact ⟨0, rfl, Nat.zero_le _, by intro i hi; omega, by rw [mpC_zero]; exact PA.out, World.grownBy.refl _ _⟩
  case round =>
    clear PA
    obtain ⟨j, rfl, hj, hok, hPk, hgr⟩ := hrel
    have HOK := Lib.hid hok
    have HGR := Lib.hid hgr
    have hzr := hgr.size
    have PR := grown_at hgr P3 (by omega)
    have br := below_grown b3 hgr hb3 (by have := HG.out; omega)
    clear hok
    by_cases hlt : j < 6
    · have h17 : s.length = 17 := HL.out
      obtain ⟨k0, hk0⟩ : ∃ k0, 3 * j = k0 := ⟨_, rfl⟩
      obtain ⟨k1, hk1⟩ : ∃ k1, 3 * j + 1 = k1 := ⟨_, rfl⟩
      obtain ⟨x, hx⟩ : ∃ x, s.getD (3 * j) 0 = x := ⟨_, rfl⟩
      obtain ⟨y, hy⟩ : ∃ y, s.getD (3 * j + 1) 0 = y := ⟨_, rfl⟩
      obtain ⟨z, hz⟩ : ∃ z, s.getD (3 * j + 2) 0 = z := ⟨_, rfl⟩
      have g0 : ∀ pf, (str s)[k0]'pf = x := fun pf => (str_get s k0 pf).trans (by rw [← hk0, hx])
      have g1 : ∀ pf, (str s)[k1]'pf = y := fun pf => (str_get s k1 pf).trans (by rw [← hk1, hy])
      have e1 : IntKind.i64.wrap (3 * (j : Int)) = (k0 : Int) := (IntWalk.i64_in _ (by omega)).trans (by omega)
      have e2 : IntKind.i64.wrap ((k0 : Int) + 1) = (k1 : Int) := (IntWalk.i64_in _ (by omega)).trans (by omega)
      have i0 : (0 : Int) ≤ (k0 : Int) ∧ (k0 : Int) < (s.length : Int) := by omega
      have i1 : (0 : Int) ≤ (k1 : Int) ∧ (k1 : Int) < (s.length : Int) := by omega
      have HX := Lib.hid hx
      have HY := Lib.hid hy
      have HZ := Lib.hid hz
      have HK0 := Lib.hid hk0
      have HK1 := Lib.hid hk1
      have HLT := Lib.hid hlt
      clear hx hy hz hk0 hk1 h17
      go_upto_region 7 with fail
      go_cut [6, 7] (fun v6 v7 wx => v6 = .int .i64 (hexI x) ∧ v7 = .int .i64 (hexI y) ∧ Below wr.heap.size wr wx)
      case first =>
        have r0 : Below wr.heap.size wr wr.drew := (Below.refl _ _).drew
        refine rg_begin (fun _ => False) (by kernel_rfl) ?_
        refine rg_take (v := ?_) 0 rfl (by kernel_rfl) (by kernel_rfl) (by kernel_rfl) (fun _ _ _ h => h) (by rfl) ?_ ?_; rotate_left
        · (intro x hx; go_simp; first | done | with_reducible rfl | (rw [if_pos (by omega)]; try with_reducible rfl) | (rw [if_neg (by omega)]; try with_reducible rfl))
        try simp only [Act.put, List.setIfInBounds_toArray, List.set_cons_zero, List.set_cons_succ]
        refine rg_take (v := ?_) 1 rfl (by kernel_rfl) (by kernel_rfl) (by kernel_rfl) (fun _ _ _ h => h) (by rfl) ?_ ?_; rotate_left
        · (intro x hx; go_simp; first | done | with_reducible rfl | (rw [if_pos (by omega)]; try with_reducible rfl) | (rw [if_neg (by omega)]; try with_reducible rfl))
        try simp only [Act.put, List.setIfInBounds_toArray, List.set_cons_zero, List.set_cons_succ]
        refine rg_take (v := ?_) 2 rfl (by kernel_rfl) (by kernel_rfl) (by kernel_rfl) (fun _ _ _ h => h) (by rfl) ?_ ?_; rotate_left
        · (intro x hx; go_simp; first | done | with_reducible rfl | (rw [if_pos (by omega)]; try with_reducible rfl) | (rw [if_neg (by omega)]; try with_reducible rfl))
        try simp only [Act.put, List.setIfInBounds_toArray, List.set_cons_zero, List.set_cons_succ]
        refine rg_take (v := ?_) 3 rfl (by kernel_rfl) (by kernel_rfl) (by kernel_rfl) (fun _ _ _ h => h) (by rfl) ?_ ?_; rotate_left
        · (intro x hx; go_simp; first | done | with_reducible rfl | (rw [if_pos (by omega)]; try with_reducible rfl) | (rw [if_neg (by omega)]; try with_reducible rfl))
        try simp only [Act.put, List.setIfInBounds_toArray, List.set_cons_zero, List.set_cons_succ]
        refine rg_take (v := ?_) 5 rfl (by kernel_rfl) (by kernel_rfl) (by kernel_rfl) (fun _ _ _ h => h) (by rfl) ?_ ?_; rotate_left
        · (intro x hx; go_simp; first | done | with_reducible rfl | (rw [if_pos (by omega)]; try with_reducible rfl) | (rw [if_neg (by omega)]; try with_reducible rfl))
        try simp only [Act.put, List.setIfInBounds_toArray, List.set_cons_zero, List.set_cons_succ]
        refine rg_take (v := ?_) 6 rfl (by kernel_rfl) (by kernel_rfl) (by kernel_rfl) (fun _ _ _ h => h) (by rfl) ?_ ?_; rotate_left
        · (intro x hx; go_simp; first | done | with_reducible rfl | (rw [if_pos (by omega)]; try with_reducible rfl) | (rw [if_neg (by omega)]; try with_reducible rfl))
        try simp only [Act.put, List.setIfInBounds_toArray, List.set_cons_zero, List.set_cons_succ]
        refine rg_take (v := ?_) 7 rfl (by kernel_rfl) (by kernel_rfl) (by kernel_rfl) (fun _ _ _ h => h) (by rfl) ?_ ?_; rotate_left
        · (intro x hx; go_simp; first | done | with_reducible rfl | (rw [if_pos (by omega)]; try with_reducible rfl) | (rw [if_neg (by omega)]; try with_reducible rfl))
        try simp only [Act.put, List.setIfInBounds_toArray, List.set_cons_zero, List.set_cons_succ]
        refine rg_take (v := ?_) 8 rfl (by kernel_rfl) (by kernel_rfl) (by kernel_rfl) (fun _ _ _ h => h) (by rfl) ?_ ?_; rotate_left
        · (intro x hx; go_simp; first | done | with_reducible rfl | (rw [if_pos (by omega)]; try with_reducible rfl) | (rw [if_neg (by omega)]; try with_reducible rfl))
        try simp only [Act.put, List.setIfInBounds_toArray, List.set_cons_zero, List.set_cons_succ]
        refine rg_take (v := ?_) 9 rfl (by kernel_rfl) (by kernel_rfl) (by kernel_rfl) (fun _ _ _ h => h) (by rfl) ?_ ?_; rotate_left
        · (intro x hx; go_simp; first | done | with_reducible rfl | (rw [if_pos (by omega)]; try with_reducible rfl) | (rw [if_neg (by omega)]; try with_reducible rfl))
        try simp only [Act.put, List.setIfInBounds_toArray, List.set_cons_zero, List.set_cons_succ]
        refine rg_step 4 rfl (by kernel_rfl) (by rfl) (fun K hK => ?_)
        go_simp
        refine (rhex_any _ x).mono ?_
        rintro e u1 ⟨rfl, rfl⟩
        refine hK.out _ _ (Ext.refl _ _) ?_
        clear hK K; try simp only [Act.put, List.setIfInBounds_toArray, List.set_cons_zero, List.set_cons_succ]
        refine rg_step 10 rfl (by kernel_rfl) (by rfl) (fun K hK => ?_)
        go_simp
        refine (rhex_any _ y).mono ?_
        rintro e u2 ⟨rfl, rfl⟩
        refine hK.out _ _ (Ext.refl _ _) ?_
        clear hK K; try simp only [Act.put, List.setIfInBounds_toArray, List.set_cons_zero, List.set_cons_succ]
        refine rg_take (v := ?_) 11 rfl (by kernel_rfl) (by kernel_rfl) (by kernel_rfl) (fun _ _ _ h => h) (by rfl) ?_ ?_; rotate_left
        · (intro x hx; go_simp; first | done | with_reducible rfl | (rw [if_pos (by omega)]; try with_reducible rfl) | (rw [if_neg (by omega)]; try with_reducible rfl))
        try simp only [Act.put, List.setIfInBounds_toArray, List.set_cons_zero, List.set_cons_succ]
        refine rg_take (v := ?_) 12 rfl (by kernel_rfl) (by kernel_rfl) (by kernel_rfl) (fun _ _ _ h => h) (by rfl) ?_ ?_; rotate_left
        · (intro x hx; go_simp; first | done | with_reducible rfl | (rw [if_pos (by omega)]; try with_reducible rfl) | (rw [if_neg (by omega)]; try with_reducible rfl))
        try simp only [Act.put, List.setIfInBounds_toArray, List.set_cons_zero, List.set_cons_succ]
        refine rg_done (by kernel_rfl) ?_
        --TAIL
        go_wp2_with fail
        go_meet
        exact ⟨rfl, rfl, r0⟩
      case rest =>
        obtain ⟨rfl, rfl, qc⟩ := hcut
        have Pc := below_at qc PR (heap_lt PR)
        have Kc := below_at qc hPk (heap_lt hPk)
        have bc := br.trans (qc.mono br.size)
        have HGC := Lib.hid (grown_below HGR.out qc hzr)
        clear PR hPk br qc hgr
        rcases hdx : hexD x.toNat with _ | d
        · rw [hexI_no hdx]
          have HV := Lib.hid (mac_bad hlt (mOk_x HX.out hdx))
          clear hdx
          go_wp2_with ((with_reducible apply at_store_part 28); (case hx => exact rfl); (case hy => exact rfl); (case hg => exact Pc); (case hle => simp); (case hi => kernel_rfl); (case h1 => kernel_rfl); (intro w9 g9 P9; replace P9 := Lib.hid P9))
          refine bodyPost_cell_tmp g _ _ _ rfl rfl P9.out Tryz.underlying28 rfl (by kernel_rfl) rfl ?_
          exact ⟨by rw [HV.out]; rfl, below_grown bc g9 bc.size (by have := HG.out; omega)⟩
        rw [hexI_yes hdx]
        have hd := hexD_le hdx
        have n1 : decide ((d : Int) < 0) = false := decide_eq_false (by omega)
        rcases hdy : hexD y.toNat with _ | e
        · rw [hexI_no hdy]
          have HV := Lib.hid (mac_bad hlt (mOk_y HY.out hdy))
          clear hdx hdy
          go_wp2_with ((with_reducible apply at_store_part 28); (case hx => exact rfl); (case hy => exact rfl); (case hg => exact Pc); (case hle => simp); (case hi => kernel_rfl); (case h1 => kernel_rfl); (intro w9 g9 P9; replace P9 := Lib.hid P9))
          refine bodyPost_cell_tmp g _ _ _ rfl rfl P9.out Tryz.underlying28 rfl (by kernel_rfl) rfl ?_
          exact ⟨by rw [HV.out]; rfl, below_grown bc g9 bc.size (by have := HG.out; omega)⟩
        rw [hexI_yes hdy]
        have he := hexD_le hdy
        have n2 : decide ((e : Int) < 0) = false := decide_eq_false (by omega)
        have HPV := Lib.hid (show pairV (ps.getD j []) = 16 * d + e by rw [← HPS.out, parts6_get s j hlt, HX.out, HY.out, pair_val x y hdx hdy])
        have HDX := Lib.hid hdx
        have HDY := Lib.hid hdy
        clear hdx hdy
        have ew1 : IntKind.i64.wrap (16 * (d : Int)) = 16 * (d : Int) := IntWalk.i64_in _ (by omega)
        have ew2 : IntKind.i64.wrap (16 * (d : Int) + (e : Int)) = 16 * (d : Int) + (e : Int) := IntWalk.i64_in _ (by omega)
        have ew3 : IntKind.u8.wrap (16 * (d : Int) + (e : Int)) = 16 * (d : Int) + (e : Int) := IntWalk.u8_in _ (by omega)
        rcases Nat.lt_or_ge j 5 with hj5 | hj5
        case' inl =>
          have n3 : decide ((j : Int) < 5) = true := decide_eq_true (by omega)
          obtain ⟨k2, hk2⟩ : ∃ k2, 3 * j + 2 = k2 := ⟨_, rfl⟩
          have g2 : ∀ pf, (str s)[k2]'pf = z := fun pf => (str_get s k2 pf).trans (by rw [← hk2]; exact HZ.out)
          have e3 : IntKind.i64.wrap ((k0 : Int) + 2) = (k2 : Int) := by
            have := HK0.out
            exact (IntWalk.i64_in _ (by omega)).trans (by omega)
          have i2 : (0 : Int) ≤ (k2 : Int) ∧ (k2 : Int) < (s.length : Int) := by
            have := HL.out
            omega
          have HK2 := Lib.hid hk2
          clear hk2
          by_cases hz5 : z = 58
          case neg =>
            have n4 : ((z.toNat : Int) != 58) = true := by
              rw [bne_iff_ne]
              intro h
              exact hz5 (UInt8.toNat_inj.1 (by simp; omega))
            have HV := Lib.hid (mac_bad hlt (mOk_z HZ.out hz5 hj5))
            clear hz5
            go_wp2_with ((with_reducible apply at_store_part 28); (case hx => exact rfl); (case hy => exact rfl); (case hg => exact Pc); (case hle => simp); (case hi => kernel_rfl); (case h1 => kernel_rfl); (intro w9 g9 P9; replace P9 := Lib.hid P9))
            refine bodyPost_cell_tmp g _ _ _ rfl rfl P9.out Tryz.underlying28 rfl (by kernel_rfl) rfl ?_
            exact ⟨by rw [HV.out]; rfl, below_grown bc g9 bc.size (by have := HG.out; omega)⟩
          have n4 : ((z.toNat : Int) != 58) = false := by rw [hz5]; rfl
          have HM := Lib.hid (mOk_of (j := j) HX.out HY.out HDX.out HDY.out (.inr (HZ.out.trans hz5)))
          clear hz5
        case' inr =>
          have n3 : decide ((j : Int) < 5) = false := decide_eq_false (by omega)
          have HM := Lib.hid (mOk_of (j := j) HX.out HY.out HDX.out HDY.out (.inl hj5))
        all_goals
          obtain ⟨hcK, hfK⟩ := cells_of Kc
          have hcj : wc.cell? ⟨k, j, none⟩ = some ((mpC ps j).getD j undef) := by
            rw [hcK j]
            rcases (show j = 0 ∨ j = 1 ∨ j = 2 ∨ j = 3 ∨ j = 4 ∨ j = 5 by omega) with rfl | rfl | rfl | rfl | rfl | rfl <;> rfl
          have K5 := Lib.hid (heap_set_cells (k := j) Kc (.int .u8 (pairV (ps.getD j []))))
          rw [HPV.out] at K5
          clear Kc hcK hj5
          go_wp2_with fail
          go_roundw
          case rel =>
            refine ⟨j + 1, by go_num, by omega, fun i hi => ?_, ?_, ?_⟩
            · rcases Nat.lt_or_ge i j with h | h
              · exact HOK.out i h
              · obtain rfl : i = j := by omega
                exact HM.out
            · rw [← mpC_step ps j hlt, HPV.out]
              exact K5.out
            · exact grown_setCell HGC.out _ _
          case measure => simp [intOf]; omega
    · obtain rfl : j = 6 := by omega
      have HV := Lib.hid (mac_in HL.out HOK.out)
      clear hgr hlt
      go_wp2_with (((with_reducible apply at_load_row 28); (case hx => exact rfl); (case hg => exact hPk); (case hu => exact Tryz.underlying28); (case hd => rfl); (case hi => kernel_rfl)); (refine Hid.out ?_))
      refine Lib.hid ?_
      go_wp2_with ((with_reducible apply at_store_part 28); (case hx => exact rfl); (case hy => exact rfl); (case hg => exact PR); (case hle => rw [mpC_size]; decide); (case hi => rw [mpC_size]; kernel_rfl); (case h1 => exact mpC_one ps); (intro w5 g5 P5; replace P5 := Lib.hid P5))
      have P6 := P5.out
      rw [splice6] at P6
      refine bodyPost_cell_tmp g _ _ _ rfl rfl P6 Tryz.underlying28 rfl (by kernel_rfl) rfl ?_
      refine ⟨?_, below_grown br g5 br.size (by have := HG.out; omega)⟩
      rw [HV.out, HPS.out, mpC_end ps]
      rfl
end
end Go.Proofs.YtnmdiageigbphaaGreatDoor
