/-
  The reference's Parse.
-/
import Derived.Test.YtnmdiageigbphaaGreatDoorNq2
import Derived.Test.YtnmdiageigbphaaGreatDoorAt
import Derived.Test.YtnmdiageigbphaaGreatDoorRegion
namespace Go.Proofs.YtnmdiageigbphaaGreatDoor
section
open Go.RowKit

theorem go_spec : ∀ (l : List UInt8) (n : Nat) (f : Bool) (v : Nat), numGo n f l = some v → digs l ∧ v = valF n l ∧ (l ≠ [] → f = false → n ≠ 0)
  | [], n, f, v, h => by
    simp [numGo] at h
    exact ⟨fun _ h => (by simp at h), h.symm, fun h => absurd rfl h⟩
  | b :: r, n, f, v, h => by
    rw [numGo] at h
    split at h
    · cases h
    · rename_i hc
      obtain ⟨h1, h2, _⟩ := go_spec r _ false v h
      refine ⟨fun x hx => ?_, h2, fun _ hf hn => hc (.inr (.inr (.inl ⟨hf, hn⟩)))⟩
      rcases List.mem_cons.1 hx with rfl | hx
      · exact ⟨by omega, by omega⟩
      · exact h1 x hx
theorem go_some : ∀ (l : List UInt8) (n : Nat), n ≠ 0 → digs l → valF n l ≤ 1000 → numGo n false l = some (valF n l)
  | [], n, _, _, _ => rfl
  | b :: r, n, hn, hd, hv => by
    have hb := hd b (by simp)
    have hm := valF_mono (b :: r) n
    rw [numGo, if_neg (by rintro (h | h | h | h) <;> omega)]
    exact go_some r _ (by omega) (fun x hx => hd x (by simp [hx])) hv
/-- A number read: digits, no nought ahead, not too great. -/
theorem numOk_iff (s : List UInt8) (most : Nat) (hm : most ≤ 1000) : numOk s most = true ↔ s ≠ [] ∧ digs s ∧ (1 < s.length → s.getD 0 0 ≠ 48) ∧ valF 0 s ≤ most := by
  constructor
  · intro h
    simp only [numOk, Bool.and_eq_true, Bool.not_eq_true', decide_eq_true_eq] at h
    obtain ⟨⟨h1, h2⟩, h3⟩ := h
    rcases hg : numGo 0 true s with _ | v
    · rw [hg] at h1; cases h1
    · obtain ⟨g1, g2, _⟩ := go_spec s 0 true v hg
      rw [numV, hg] at h3
      simp only [Option.getD_some] at h3
      refine ⟨by rintro rfl; simp at h2, g1, fun hl => ?_, by rw [← g2]; exact h3⟩
      match s, hl, hg, g1 with
      | b :: c :: r, _, hg, g1 =>
        rw [numGo] at hg
        split at hg
        · cases hg
        · obtain ⟨_, _, h5⟩ := go_spec (c :: r) _ false v hg
          have := h5 (by simp) rfl
          intro e
          simp at e
          subst e
          simp at this
  · rintro ⟨h1, h2, h3, h4⟩
    have key : numGo 0 true s = some (valF 0 s) := by
      match s, h1, h2, h3, h4 with
      | b :: r, _, h2, h3, h4 =>
        have hb := h2 b (by simp)
        rw [numGo, if_neg (by rintro (h | h | h | h) <;> first | omega | (have := h.1; simp at this))]
        rw [show valF 0 (b :: r) = valF (10 * 0 + (b.toNat - 48)) r from rfl] at h4 ⊢
        rcases r with _ | ⟨c, r⟩
        · rfl
        · have h5 := h3 (by simp)
          simp at h5
          have : b.toNat ≠ 48 := fun e => h5 (UInt8.toNat_inj.1 e)
          exact go_some _ _ (by omega) (fun x hx => h2 x (by simp at hx; simp [hx])) (by omega)
    simp only [numOk, key, numV, Option.getD_some, Option.isSome_some, Bool.true_and, Bool.and_eq_true, Bool.not_eq_true', decide_eq_true_eq]
    exact ⟨by cases s <;> simp_all, h4⟩
theorem numOk_val {s : List UInt8} {most : Nat} (h : numOk s most = true) : numV s = valF 0 s := by
  simp only [numOk, Bool.and_eq_true] at h
  rcases hg : numGo 0 true s with _ | v
  · rw [hg] at h; cases h.1.1
  · rw [numV, hg]
    exact (go_spec s 0 true v hg).2.1
theorem valF_big (s : List UInt8) (h0 : s ≠ []) (hd : digs s) (h1 : 1 < s.length → s.getD 0 0 ≠ 48) (hl : 1 < s.length) : 10 ^ (s.length - 1) ≤ valF 0 s := by
  match s, h0, hd, h1, hl with
  | b :: r, _, hd, h1, hl =>
    have hb := hd b (by simp)
    have h5 := h1 hl
    simp at h5
    have hne : b.toNat ≠ 48 := fun e => h5 (UInt8.toNat_inj.1 e)
    have h := valF_ge r (10 * 0 + (b.toNat - 48))
    rw [show valF 0 (b :: r) = valF (10 * 0 + (b.toNat - 48)) r from rfl]
    refine Nat.le_trans ?_ h
    simp only [List.length_cons, Nat.add_sub_cancel]
    exact Nat.le_mul_of_pos_left _ (by omega)
theorem numOk_len (s : List UInt8) (most k : Nat) (hm : most ≤ 1000) (hk : most < 10 ^ k) (hk1 : 1 ≤ k) (h : numOk s most = true) : s.length ≤ k := by
  obtain ⟨h1, h2, h3, h4⟩ := (numOk_iff s most hm).1 h
  rcases Nat.lt_or_ge k s.length with hl | hl
  · have h5 := valF_big s h1 h2 h3 (by omega)
    have h6 : (10 : Nat) ^ k ≤ 10 ^ (s.length - 1) := Nat.pow_le_pow_right (by decide) (by omega)
    omega
  · exact hl
def refNum (s : List UInt8) (most : Nat) : Int := if numOk s most = true then (numV s : Int) else -1
theorem cutB_sum (c : UInt8) : ∀ s : List UInt8, ((cutB c s).map List.length).sum + (cutB c s).length = s.length + 1
  | [] => by simp [cutB]
  | x :: r => by
    have h := cutB_sum c r
    rw [cutB]
    split
    · simp; omega
    · split
      · rename_i p q hq
        rw [hq] at h
        simp at h ⊢
        omega
      · rename_i hq
        rw [hq] at h
        simp at h
/-- An address read is no longer than 15 bytes. -/
theorem parseA_len {s : List UInt8} (h : (cutB 46 s).length = 4 ∧ okN (cutB 46 s) 4 = true) : s.length ≤ 15 := by
  have hs := cutB_sum 46 s
  obtain ⟨h1, h2⟩ := h
  rw [okN_iff] at h2
  match hc : cutB 46 s, h1 with
  | [p0, p1, p2, p3], _ =>
    rw [hc] at h2 hs
    have k0 := numOk_len p0 255 3 (by decide) (by decide) (by decide) (h2 0 (by decide))
    have k1 := numOk_len p1 255 3 (by decide) (by decide) (by decide) (h2 1 (by decide))
    have k2 := numOk_len p2 255 3 (by decide) (by decide) (by decide) (h2 2 (by decide))
    have k3 := numOk_len p3 255 3 (by decide) (by decide) (by decide) (h2 3 (by decide))
    simp at hs
    omega
theorem parseV_ok {s : List UInt8} : (parseV s).2 = 0 ↔ ((cutB 46 s).length = 4 ∧ okN (cutB 46 s) 4 = true) := by
  by_cases h : (cutB 46 s).length = 4 ∧ okN (cutB 46 s) 4 = true
  · rw [parse_yes h]
    simp [h]
  · rw [parse_no h]
    simp [h]
theorem parseV_long {s : List UInt8} (h : 15 < s.length) : parseV s = (ad0, 9) := parse_no fun hh => by have := parseA_len hh; omega
theorem parseV_bad {s : List UInt8} (h : (parseV s).2 ≠ 0) : parseV s = (ad0, 9) := parse_no fun hh => h (parseV_ok.2 hh)
end
section
open Go.RowKit

theorem cutB_snoc (c x : UInt8) : ∀ a : List UInt8, ∃ init last, cutB c a = init ++ [last] ∧ cutB c (a ++ [x]) = if x = c then init ++ [last] ++ [[]] else init ++ [last ++ [x]]
  | [] => ⟨[], [], rfl, by by_cases h : x = c <;> simp [cutB, h]⟩
  | y :: r => by
    obtain ⟨init, last, h1, h2⟩ := cutB_snoc c x r
    rw [List.cons_append, cutB, cutB, h2, h1]
    by_cases hy : y = c
    · rw [if_pos hy, if_pos hy]
      refine ⟨[] :: init, last, rfl, ?_⟩
      split <;> rfl
    · rw [if_neg hy, if_neg hy]
      rcases init with _ | ⟨p, q⟩
      · refine ⟨[], y :: last, rfl, ?_⟩
        by_cases h : x = c <;> simp [h]
      · refine ⟨(y :: p) :: q, last, rfl, ?_⟩
        by_cases h : x = c <;> simp [h]
theorem SO.set_last {w : World} {H n c b o : Nat} {init : List (List UInt8)} {x : List UInt8} (h : SO w H (some ⟨b, o, none⟩) n c (init ++ [x])) (y : List UInt8) :
    o = 0 ∧ H ≤ b ∧ w.cell? ⟨b, init.length, none⟩ = some (.string (str x)) ∧ w.frozen? ⟨b, init.length, none⟩ = false ∧ SO (w.setCell ⟨b, init.length, none⟩ (.string (str y))) H (some ⟨b, o, none⟩) n c (init ++ [y]) := by
  obtain ⟨hn, hlen, hr⟩ := h
  rcases hr with ⟨hv, _⟩ | ⟨g, cap, cur, hv, hb, hg, hnc, hcm, hsz, ht⟩
  · cases hv
  · injection hv with e1 e2 e3
    injection e1 with e1
    injection e1 with e4 e5
    subst e4 e5 e3
    obtain ⟨hc, hf⟩ := cells_of hg
    have hnl : n = init.length + 1 := by rw [hn]; simp
    have hcur : cur[init.length]? = some (.string (str x)) := by
      have h1 : (cur.toList.take (n * 1))[init.length]? = some (.string (str x)) := by rw [ht]; simp [sv]
      rw [List.getElem?_take_of_lt (by omega)] at h1
      simpa using h1
    refine ⟨rfl, hb, (hc _).trans hcur, hf _, by rw [hn]; simp, by simp [sv_length, hnl], .inr ⟨b, c, cur.setIfInBounds init.length (.string (str y)), rfl, hb, heap_set_cells hg _, hnc, hcm, by simpa using hsz, ?_⟩⟩
    rw [Array.toList_setIfInBounds, List.take_set, ht]
    simp [sv]
theorem str_get (s : List UInt8) (i : Nat) : ∀ pf, (str s)[i]'pf = s.getD i 0 := by
  intro pf
  have h : i < s.length := pf
  show s.toArray[i] = _
  simp [List.getD, h]
theorem str_one (s : List UInt8) (i : Nat) (h : i < s.length) : (str s).extract i (i + 1) = str [s.getD i 0] := by
  rw [extr, drop_get s i h]
  simp
theorem take_snoc (s : List UInt8) (i : Nat) (h : i < s.length) : s.take (i + 1) = s.take i ++ [s.getD i 0] := by
  rw [List.take_add_one, List.getElem?_eq_getElem h]
  simp [List.getD, h]

set_option maxRecDepth 100000 in
set_option maxHeartbeats 4000000 in
theorem rCut_any (w : World) (s : List UInt8) (c : UInt8) (hl : s.length ≤ 20000) : Calls Tryz.prog 64 #[.string (str s), .int .u8 (c.toNat : Int)] w (PartsPost w (cutB c s)) := by
  have S0 : SO (w.alloc (.cells #[.string ⟨#[]⟩] 9)) w.heap.size (some ⟨w.heap.size, 0, none⟩) 1 1 [[]] := ⟨rfl, rfl, .inr ⟨w.heap.size, 1, _, rfl, Nat.le_refl _, heap_alloc_new w _, Nat.le_refl _, by simp [maxLen], rfl, rfl⟩⟩
  have b0 : Below w.heap.size w (w.alloc (.cells #[.string ⟨#[]⟩] 9)) := (Below.refl _ w).alloc (Nat.le_refl _) _
  have hss : (str s).size = s.length := rfl
  go_enter Tryz.func64, Tryz.ntmps64
  go_wp2_with fail
  generalize w.alloc (.cells #[.string ⟨#[]⟩] 9) = w1 at S0 b0 ⊢
  go_loopw [5, 6] (fun v iv wr => ∃ (A : Option Addr) (n cc i : Nat), v = .slice A n cc ∧ iv = .int .i64 i ∧ i ≤ s.length ∧ SO wr w.heap.size A n cc (cutB c (s.take i)) ∧ Below w.heap.size w wr) (fun _ iv _ => s.length - (intOf iv).toNat)
  case atStart => exact ⟨_, _, _, 0, rfl, rfl, Nat.zero_le _, S0, b0⟩
  case round =>
    obtain ⟨A, n, cc, i, rfl, rfl, hi, ho, hb⟩ := hrel
    clear S0 b0
    by_cases hlt : i < s.length
    · have hin : (0 : Int) ≤ (i : Int) ∧ (i : Int) < (s.length : Int) := ⟨by omega, by omega⟩
      have hget := str_get s i
      have hex := str_one s i hlt
      have htk := take_snoc s i hlt
      obtain ⟨x, hx⟩ : ∃ x, s.getD i 0 = x := ⟨_, rfl⟩
      rw [hx] at hget hex htk
      obtain ⟨init, last, hc1, hc2⟩ := cutB_snoc c x (s.take i)
      rw [← htk] at hc2
      rw [hc1] at ho
      have hll : init.length ≤ s.length := by
        have h1 := cutB_length c (s.take i)
        rw [hc1] at h1
        simp at h1
        omega
      have hlast : last.length ≤ 20000 := by
        have h1 := cutB_mem c (s.take i) last (by rw [hc1]; simp)
        simp at h1
        omega
      have hz := hb.size
      by_cases hxc : x = c
      · have x1 : ((x.toNat : Int) == (c.toNat : Int)) = true := by rw [hxc]; exact beq_self_eq_true _
        have HC2 := Lib.hid (show cutB c (s.take (i + 1)) = init ++ [last, []] by rw [hc2, if_pos hxc]; simp)
        clear hx htk hc1 hc2 hex hxc
        go_wp2_with (at_builtin; go_must (refine appS rfl _ _ rfl w.heap.size A n cc (init ++ [last]) rfl (ho.alloc _) wr.heap.size 1 [] rfl ((cells_of (heap_alloc_new wr _)).1 0) (by simp) (by simp; omega) (by simp; omega) ?_))
        intro A' n' c' w' ho' hbw hg
        have hb3 := (hb.alloc hz _).trans hbw
        rw [← HC2.out] at ho'
        go_wp2_with fail
        go_roundw
        case rel => exact ⟨A', n', c', i + 1, rfl, by go_num, by omega, ho', hb3⟩
        case measure => simp [intOf]; omega
      · have x1 : ((x.toNat : Int) == (c.toNat : Int)) = false := by
          rw [beq_eq_false_iff_ne]
          intro e
          exact hxc (UInt8.toNat_inj.1 (by omega))
        have HC2 := Lib.hid (show cutB c (s.take (i + 1)) = init ++ [last ++ [x]] by rw [hc2, if_neg hxc])
        have hnn := ho.1
        obtain ⟨b, o, rfl, hbl, _⟩ := ho.at_ (k := 0) (s := (init ++ [last]).getD 0 []) (getD_some [] (by simp))
        obtain ⟨rfl, hHb, hcell, hfr, ho2⟩ := ho.set_last (last ++ [x])
        obtain ⟨k, hk⟩ : ∃ k, init.length = k := ⟨_, rfl⟩
        rw [hk] at hcell hfr ho2 hll
        have hnk : n = k + 1 := by rw [hnn]; simp [hk]
        subst hnk
        have sadd : ∀ w, (Op.stringOp .add (str last) (str [x])).run Tryz.prog w = .ok (.string (str (last ++ [x]))) w := fun w => str_addL w last [x] (by simp; omega)
        obtain ⟨L, hL⟩ : ∃ L, last ++ [x] = L := ⟨_, rfl⟩
        rw [hL] at sadd ho2 HC2
        have HO2 := Lib.hid ho2
        have e1 : (k : Int) + 1 - 1 = (k : Int) := by omega
        have e2 : IntKind.i64.wrap (k : Int) = (k : Int) := IntWalk.i64_in _ (by omega)
        have e3 : IntKind.i64.wrap ((i : Int) + 1) = (i : Int) + 1 := IntWalk.i64_in _ (by omega)
        have e4 : ((i : Int) + 1).toNat = i + 1 := by omega
        have e5 : (0 : Int) ≤ (i : Int) + 1 ∧ (i : Int) + 1 ≤ (s.length : Int) := by omega
        have e6 : (0 : Int) ≤ (k : Int) ∧ (k : Int) < (k : Int) + 1 := by omega
        clear hx htk hc1 hc2 hxc ho ho2 hnn hL hk
        go_upto_region 7 with fail
        refine rg_begin (fun j => w.heap.size ≤ j) (by kernel_rfl) ?_
        refine rg_take (v := ?_) 0 rfl (by kernel_rfl) (by kernel_rfl) (by kernel_rfl) (fun _ _ _ h => h) (by rfl) ?_ ?_; rotate_left
        · (intro x hx; go_simp; first | done | with_reducible rfl | (rw [if_pos (by omega)]; try with_reducible rfl) | (rw [if_neg (by omega)]; try with_reducible rfl))
        try simp only [Act.put, List.setIfInBounds_toArray, List.set_cons_zero, List.set_cons_succ]
        refine rg_take (v := ?_) 1 rfl (by kernel_rfl) (by kernel_rfl) (by kernel_rfl) (fun _ _ _ h => h) (by rfl) ?_ ?_; rotate_left
        · (intro x hx; go_simp; first | done | with_reducible rfl | (rw [if_pos (by omega)]; try with_reducible rfl) | (rw [if_neg (by omega)]; try with_reducible rfl))
        try simp only [Act.put, List.setIfInBounds_toArray, List.set_cons_zero, List.set_cons_succ]
        refine rg_take (v := ?_) 2 rfl (by kernel_rfl) (by kernel_rfl) (by kernel_rfl) (fun _ _ _ h => h) (by rfl) ?_ ?_; rotate_left
        · (intro x hx; go_simp; first | done | with_reducible rfl | (rw [if_pos (by omega)]; try with_reducible rfl) | (rw [if_neg (by omega)]; try with_reducible rfl))
        try simp only [Act.put, List.setIfInBounds_toArray, List.set_cons_zero, List.set_cons_succ]
        refine rg_take (v := ?_) 3 rfl (by kernel_rfl) (by kernel_rfl) (by kernel_rfl) (fun _ _ _ h => h) (by rfl) ?_ ?_; rotate_left
        · (intro x hx; go_simp; first | done | with_reducible rfl | (rw [if_pos (by omega)]; try with_reducible rfl) | (rw [if_neg (by omega)]; try with_reducible rfl))
        try simp only [Act.put, List.setIfInBounds_toArray, List.set_cons_zero, List.set_cons_succ]
        refine rg_take (v := ?_) 4 rfl (by kernel_rfl) (by kernel_rfl) (by kernel_rfl) (fun _ _ _ h => h) (by rfl) ?_ ?_; rotate_left
        · (intro x hx; go_simp; first | done | with_reducible rfl | (rw [if_pos (by omega)]; try with_reducible rfl) | (rw [if_neg (by omega)]; try with_reducible rfl))
        try simp only [Act.put, List.setIfInBounds_toArray, List.set_cons_zero, List.set_cons_succ]
        refine rg_take (v := ?_) 5 rfl (by kernel_rfl) (by kernel_rfl) (by kernel_rfl) (fun _ _ _ h => h) (by rfl) ?_ ?_; rotate_left
        · (intro x hx; go_simp; first | done | with_reducible rfl | (rw [if_pos (by omega)]; try with_reducible rfl) | (rw [if_neg (by omega)]; try with_reducible rfl))
        try simp only [Act.put, List.setIfInBounds_toArray, List.set_cons_zero, List.set_cons_succ]
        refine rg_take (v := ?_) 6 rfl (by kernel_rfl) (by kernel_rfl) (by kernel_rfl) (fun _ _ _ h => h) (by rfl) ?_ ?_; rotate_left
        · (intro x hx; go_simp; first | done | with_reducible rfl | (rw [if_pos (by omega)]; try with_reducible rfl) | (rw [if_neg (by omega)]; try with_reducible rfl))
        try simp only [Act.put, List.setIfInBounds_toArray, List.set_cons_zero, List.set_cons_succ]
        refine rg_take (v := ?_) 7 rfl (by kernel_rfl) (by kernel_rfl) (by kernel_rfl) (fun _ _ _ h => h) (by rfl) ?_ ?_; rotate_left
        · (intro x hx; go_simp; first | done | with_reducible rfl | (rw [if_pos (by omega)]; try with_reducible rfl) | (rw [if_neg (by omega)]; try with_reducible rfl))
        try simp only [Act.put, List.setIfInBounds_toArray, List.set_cons_zero, List.set_cons_succ]
        refine rg_take (v := ?_) 8 rfl (by kernel_rfl) (by kernel_rfl) (by kernel_rfl) (fun _ _ _ h => h) (by rfl) ?_ ?_; rotate_left
        · (intro x hx; go_simp; first | done | with_reducible rfl | (rw [if_pos (by omega)]; try with_reducible rfl) | (rw [if_neg (by omega)]; try with_reducible rfl))
        try simp only [Act.put, List.setIfInBounds_toArray, List.set_cons_zero, List.set_cons_succ]
        refine rg_take (v := ?_) 10 rfl (by kernel_rfl) (by kernel_rfl) (by kernel_rfl) (fun _ _ _ h => h) (by rfl) ?_ ?_; rotate_left
        · (intro x hx; go_simp; first | done | with_reducible rfl | (rw [if_pos (by omega)]; try with_reducible rfl) | (rw [if_neg (by omega)]; try with_reducible rfl))
        try simp only [Act.put, List.setIfInBounds_toArray, List.set_cons_zero, List.set_cons_succ]
        refine rg_take (v := ?_) 11 rfl (by kernel_rfl) (by kernel_rfl) (by kernel_rfl) (fun _ _ _ h => h) (by rfl) ?_ ?_; rotate_left
        · (intro x hx; go_simp; first | done | with_reducible rfl | (rw [if_pos (by omega)]; try with_reducible rfl) | (rw [if_neg (by omega)]; try with_reducible rfl))
        try simp only [Act.put, List.setIfInBounds_toArray, List.set_cons_zero, List.set_cons_succ]
        refine rg_take (v := ?_) 12 rfl (by kernel_rfl) (by kernel_rfl) (by kernel_rfl) (fun _ _ _ h => h) (by rfl) ?_ ?_; rotate_left
        · (intro x hx; go_simp; first | done | with_reducible rfl | (rw [if_pos (by omega)]; try with_reducible rfl) | (rw [if_neg (by omega)]; try with_reducible rfl))
        try simp only [Act.put, List.setIfInBounds_toArray, List.set_cons_zero, List.set_cons_succ]
        refine rg_take (v := ?_) 13 rfl (by kernel_rfl) (by kernel_rfl) (by kernel_rfl) (fun _ _ _ h => h) (by rfl) ?_ ?_; rotate_left
        · (intro x hx; go_simp; first | done | with_reducible rfl | (rw [if_pos (by omega)]; try with_reducible rfl) | (rw [if_neg (by omega)]; try with_reducible rfl))
        try simp only [Act.put, List.setIfInBounds_toArray, List.set_cons_zero, List.set_cons_succ]
        refine rg_take (v := ?_) 14 rfl (by kernel_rfl) (by kernel_rfl) (by kernel_rfl) (fun _ _ _ h => h) (by rfl) ?_ ?_; rotate_left
        · (intro x hx; go_simp; first | done | with_reducible rfl | (rw [if_pos (by omega)]; try with_reducible rfl) | (rw [if_neg (by omega)]; try with_reducible rfl))
        try simp only [Act.put, List.setIfInBounds_toArray, List.set_cons_zero, List.set_cons_succ]
        refine rg_step 9 rfl (by kernel_rfl) (by rfl) (fun K hK => ?_)
        go_simp
        refine hK.out _ _ (Ext.refl _ _) ?_
        clear hK K; try simp only [Act.put, List.setIfInBounds_toArray, List.set_cons_zero, List.set_cons_succ]
        refine rg_take (v := ?_) 15 rfl (by kernel_rfl) (by kernel_rfl) (by kernel_rfl) (fun _ _ _ h => h) (by rfl) ?_ ?_; rotate_left
        · (intro x hx; go_simp; first | done | with_reducible rfl | (rw [if_pos (by omega)]; try with_reducible rfl) | (rw [if_neg (by omega)]; try with_reducible rfl))
        try simp only [Act.put, List.setIfInBounds_toArray, List.set_cons_zero, List.set_cons_succ]
        refine rg_take (v := ?_) 16 rfl (by kernel_rfl) (by kernel_rfl) (by kernel_rfl) (fun _ _ _ h => h) (by rfl) ?_ ?_; rotate_left
        · (intro x hx; go_simp; first | done | with_reducible rfl | (rw [if_pos (by omega)]; try with_reducible rfl) | (rw [if_neg (by omega)]; try with_reducible rfl))
        try simp only [Act.put, List.setIfInBounds_toArray, List.set_cons_zero, List.set_cons_succ]
        refine rg_step 17 rfl (by kernel_rfl) (by rfl) (fun K hK => ?_)
        go_simp
        refine hK.out _ _ ((Ext.refl _ _).set (.inr hHb) _) ?_
        clear hK K
        refine rg_done (by kernel_rfl) ?_
        go_wp2_with fail
        have ho2 := HO2.out
        rw [← HC2.out] at ho2
        go_roundw
        case rel => exact ⟨_, k + 1, cc, i + 1, by go_num, by go_num, by omega, ho2, ((Ext.of_below (fun _ => False) hb.drew (by intros; omega)).set (.inl hHb) _).below (Nat.le_refl _) (by simp)⟩
        case measure => simp [intOf]; omega
    · obtain rfl : i = s.length := by omega
      rw [List.take_length] at ho
      go_wp2_with fail
      go_ret
      exact ⟨A, n, cc, rfl, ho, hb⟩
end
section
open Go.RowKit

theorem refNum_bad {s : List UInt8} {most : Nat} (h : numOk s most ≠ true) : refNum s most = -1 := if_neg h
instance digsDec (l : List UInt8) : Decidable (digs l) := by unfold digs; infer_instance
/-- What the reference's number gives. -/
def refG (s : List UInt8) (most : Nat) : Int := if s.length < 1 ∨ 9 < s.length ∨ (1 < s.length ∧ s.getD 0 0 = 48) ∨ ¬ digs s ∨ most < valF 0 s then -1 else (valF 0 s : Int)
theorem refG_short {s : List UInt8} {most : Nat} (h : s.length < 1 ∨ 9 < s.length ∨ (1 < s.length ∧ s.getD 0 0 = 48)) : refG s most = -1 := by
  rw [refG, if_pos]
  rcases h with h | h | h
  · exact .inl h
  · exact .inr (.inl h)
  · exact .inr (.inr (.inl h))
theorem refG_sign {s : List UInt8} {most i : Nat} (hi : i < s.length) (h : (s.getD i 0).toNat < 48 ∨ 57 < (s.getD i 0).toNat) : refG s most = -1 := by
  rw [refG, if_pos]
  refine .inr (.inr (.inr (.inl fun hd => ?_)))
  have := hd (s.getD i 0) (by simp [List.getD, hi])
  omega
theorem refG_end {s : List UInt8} {most : Nat} (h0 : s ≠ []) (h9 : s.length ≤ 9) (h1 : digs s) (h2 : 1 < s.length → s.getD 0 0 ≠ 48) : refG s most = if most < valF 0 s then -1 else (valF 0 s : Int) := by
  have hl : 0 < s.length := List.length_pos_iff.2 h0
  by_cases h : most < valF 0 s
  · rw [if_pos h, refG, if_pos (.inr (.inr (.inr (.inr h))))]
  · rw [if_neg h, refG, if_neg]
    rintro (k | k | k | k | k)
    · omega
    · omega
    · exact h2 k.1 k.2
    · exact k h1
    · exact h k
theorem refG_small {s : List UInt8} {most : Nat} (hm : most ≤ 1000) : refG s most = refNum s most := by
  by_cases hh : numOk s most = true
  · obtain ⟨h1, h2, h3, h4⟩ := (numOk_iff s most hm).1 hh
    have h5 := numOk_len s most 4 hm (by omega) (by decide) hh
    rw [refG_end h1 (by omega) h2 h3, if_neg (by omega), refNum, if_pos hh, numOk_val hh]
  · rw [refNum_bad hh]
    by_cases h0 : s = []
    · exact refG_short (.inl (by rw [h0]; decide))
    by_cases h9 : 9 < s.length
    · exact refG_short (.inr (.inl h9))
    by_cases h2 : 1 < s.length ∧ s.getD 0 0 = 48
    · exact refG_short (.inr (.inr h2))
    rw [refG]
    by_cases hd : digs s
    · by_cases hv : most < valF 0 s
      · rw [if_pos (.inr (.inr (.inr (.inr hv))))]
      · exact absurd ((numOk_iff s most hm).2 ⟨h0, hd, fun k e => h2 ⟨k, e⟩, by omega⟩) hh
    · rw [if_pos (.inr (.inr (.inr (.inl hd))))]
theorem digs_snoc {s : List UInt8} {i : Nat} (h : digs (s.take i)) (hi : i < s.length) (hc : 48 ≤ (s.getD i 0).toNat ∧ (s.getD i 0).toNat ≤ 57) : digs (s.take (i + 1)) := by
  rw [take_snoc s i hi]
  intro b hb
  rcases List.mem_append.1 hb with hb | hb
  · exact h b hb
  · obtain rfl := List.mem_singleton.1 hb
    exact hc

def RnP (w : World) (v : Int) (e : Ending) (w' : World) : Prop := e = .returned (.int .i64 v) ∧ w' = w
set_option maxRecDepth 100000 in
set_option maxHeartbeats 2000000 in
theorem rnumberG_any (w : World) (s : List UInt8) (most : Nat) (hl : s.length ≤ 1099511627776) (hm : most ≤ 999999999) :
    Calls Tryz.prog 98 #[.string (str s), .int .i64 most] w (RnP w (refG s most)) := by
  have hss : (str s).size = s.length := rfl
  have hg0 := str_get s 0
  rcases Nat.lt_or_ge s.length 1 with c1 | c1
  · have d1 : decide ((s.length : Int) < 1) = true := decide_eq_true (by omega)
    have HV := Lib.hid (refG_short (s := s) (most := most) (.inl c1))
    clear c1
    go_enter Tryz.func98, Tryz.ntmps98
    go_wp2_with fail
    go_ret
    exact ⟨by rw [HV.out]; rfl, rfl⟩
  have d1 : decide ((s.length : Int) < 1) = false := decide_eq_false (by omega)
  rcases Nat.lt_or_ge 9 s.length with c2 | c2
  · have d2 : decide (9 < (s.length : Int)) = true := decide_eq_true (by omega)
    have HV := Lib.hid (refG_short (s := s) (most := most) (.inr (.inl c2)))
    clear c2 c1
    go_enter Tryz.func98, Tryz.ntmps98
    go_wp2_with fail
    go_ret
    exact ⟨by rw [HV.out]; rfl, rfl⟩
  have d2 : decide (9 < (s.length : Int)) = false := decide_eq_false (by omega)
  obtain ⟨x0, hx0⟩ : ∃ x, s.getD 0 0 = x := ⟨_, rfl⟩
  rw [hx0] at hg0
  by_cases c3 : 1 < s.length ∧ s.getD 0 0 = 48
  · have d3 : decide (1 < (s.length : Int)) = true := decide_eq_true (by omega)
    have d4 : ((x0.toNat : Int) == 48) = true := by rw [← hx0, c3.2]; rfl
    have HV := Lib.hid (refG_short (s := s) (most := most) (.inr (.inr c3)))
    clear c2 c1 c3 hx0
    have hin : (0 : Int) < (s.length : Int) := by simp at d3; omega
    go_enter Tryz.func98, Tryz.ntmps98
    go_wp2_with fail
    go_ret
    exact ⟨by rw [HV.out]; rfl, rfl⟩
  have HC3 := Lib.hid (show 1 < s.length → s.getD 0 0 ≠ 48 from fun h e => c3 ⟨h, e⟩)
  clear c3
  have hin : (0 : Int) < (s.length : Int) := by omega
  have h0 : s ≠ [] := fun e => by rw [e] at c1; simp at c1
  have HS := Lib.hid (show s.length ≤ 9 from c2)
  have H0 := Lib.hid h0
  have HI := Lib.hid hx0
  rcases Nat.lt_or_ge 1 s.length with c4 | c4
  case' inl =>
    have d3 : decide (1 < (s.length : Int)) = true := decide_eq_true (by omega)
    have d4 : ((x0.toNat : Int) == 48) = false := by
      rw [beq_eq_false_iff_ne]
      intro e
      exact HC3.out c4 (by rw [hx0]; exact UInt8.toNat_inj.1 (by simp; omega))
  case' inr =>
    have d3 : decide (1 < (s.length : Int)) = false := decide_eq_false (by omega)
  all_goals
    clear h0 c4 c1 c2 hx0
    go_enter Tryz.func98, Tryz.ntmps98
    go_wp2_with fail
    go_loopw [5, 6] (fun v iv wr => ∃ n i : Nat, v = .int .i64 n ∧ iv = .int .i64 i ∧ i ≤ s.length ∧ digs (s.take i) ∧ n = valF 0 (s.take i) ∧ wr = w) (fun _ iv _ => s.length - (intOf iv).toNat)
    case atStart => exact ⟨0, 0, rfl, rfl, Nat.zero_le _, by intro b hb; simp at hb, rfl, rfl⟩
    case round =>
      obtain ⟨n, i, rfl, rfl, hi, hd, hn, rfl⟩ := hrel
      have hnb : n < 1000000000 := by
        have h1 := valF_lt (s.take i) 0 hd
        have h2 : (10 : Nat) ^ (s.take i).length ≤ 10 ^ 9 := Nat.pow_le_pow_right (by decide) (by have := HS.out; simp; omega)
        rw [← hn] at h1
        omega
      by_cases hlt : i < s.length
      · have hii : (0 : Int) ≤ (i : Int) ∧ (i : Int) < (s.length : Int) := ⟨by omega, by omega⟩
        have hget := str_get s i
        have HB := Lib.hid (refG_sign (s := s) (most := most) (i := i) hlt)
        have HD := Lib.hid (digs_snoc hd hlt)
        have HT := Lib.hid (take_snoc s i hlt)
        obtain ⟨x, hx⟩ : ∃ x, s.getD i 0 = x := ⟨_, rfl⟩
        rw [hx] at hget HB HD HT
        have HN := Lib.hid hn
        have hxl := x.toNat_lt
        clear hd hn hx
        rcases Nat.lt_or_ge x.toNat 48 with k1 | k1
        · have e1 : decide ((x.toNat : Int) < 48) = true := decide_eq_true (by omega)
          have HV := Lib.hid (HB.out (.inl k1))
          clear k1
          go_wp2_with fail
          go_ret
          exact ⟨by rw [HV.out]; rfl, rfl⟩
        have e1 : decide ((x.toNat : Int) < 48) = false := decide_eq_false (by omega)
        rcases Nat.lt_or_ge 57 x.toNat with k2 | k2
        · have e2 : decide (57 < (x.toNat : Int)) = true := decide_eq_true (by omega)
          have HV := Lib.hid (HB.out (.inr k2))
          clear k1 k2
          go_wp2_with fail
          go_ret
          exact ⟨by rw [HV.out]; rfl, rfl⟩
        have e2 : decide (57 < (x.toNat : Int)) = false := decide_eq_false (by omega)
        have HDD := Lib.hid (HD.out ⟨k1, k2⟩)
        have K1 := Lib.hid k1
        have K2 := Lib.hid k2
        have f1 : IntKind.u8.wrap ((x.toNat : Int) - 48) = (x.toNat : Int) - 48 := IntWalk.u8_in _ (by omega)
        go_wp2_with fail
        go_roundw
        case rel => exact ⟨10 * n + (x.toNat - 48), i + 1, by go_num, by go_num, by omega, HDD.out, by rw [HT.out, valF_snoc, HN.out], trivial⟩
        case measure => simp [intOf]; omega
      · obtain rfl : i = s.length := by omega
        rw [List.take_length] at hd hn
        have HV := Lib.hid (refG_end (s := s) (most := most) H0.out HS.out hd HC3.out)
        have HN := Lib.hid hn
        clear hd hn hlt
        by_cases k : most < n
        · have e1 : decide ((most : Int) < (n : Int)) = true := decide_eq_true (by omega)
          have HK := Lib.hid k
          clear k
          go_wp2_with fail
          go_ret
          exact ⟨by rw [HV.out, ← HN.out, if_pos HK.out]; rfl, rfl⟩
        · have e1 : decide ((most : Int) < (n : Int)) = false := decide_eq_false (by omega)
          have HK := Lib.hid k
          clear k
          go_wp2_with fail
          go_ret
          exact ⟨by rw [HV.out, ← HN.out, if_neg HK.out]; rfl, rfl⟩
theorem rnumber_any (w : World) (s : List UInt8) (most : Nat) (hl : s.length ≤ 1099511627776) (hm : most ≤ 1000) :
    Calls Tryz.prog 98 #[.string (str s), .int .i64 most] w (RnP w (refNum s most)) := by
  rw [← refG_small hm]
  exact rnumberG_any w s most hl (by omega)
end
section
open Go.RowKit

def RPPost (w : World) (s : List UInt8) (e : Ending) (w' : World) : Prop := e = .returned (.tuple #[adV (parseV s).1, .bool (decide ((parseV s).2 = 0))]) ∧ Below w.heap.size w w'
theorem refNum_yes {s : List UInt8} {most : Nat} (h : numOk s most = true) : refNum s most = numV s := if_pos h
set_option maxRecDepth 100000 in
set_option maxHeartbeats 4000000 in
theorem rParse_any (w : World) (s : List UInt8) (hl : s.length ≤ 1099511627776) : Calls Tryz.prog 66 #[.string (str s)] w (RPPost w s) := by
  have hss : (str s).size = s.length := rfl
  have b0 : Below w.heap.size w (w.alloc (.cells z4 24)) := (Below.refl _ w).alloc (Nat.le_refl _) _
  have P0 : (w.alloc (.cells z4 24)).heap[w.heap.size]? = some (.cells z4 24 (0, 0)) := heap_alloc_new w _
  obtain ⟨g, hg⟩ : ∃ g, w.heap.size = g := ⟨_, rfl⟩
  rcases Nat.lt_or_ge 15 s.length with c1 | c1
  · have d1 : decide (15 < (s.length : Int)) = true := decide_eq_true (by omega)
    have HV := Lib.hid (parseV_long c1)
    clear c1
    go_enter Tryz.func66, Tryz.ntmps66
    go_upto_region 1 with fail
    generalize w.alloc (.cells z4 24) = w1 at b0 P0 ⊢
    rw [hg] at P0
    have HG := Lib.hid hg
    clear hg
    go_wp2_with ((with_reducible apply at_store_part 24); (case hx => exact rfl); (case hy => exact rfl); (case hg => exact P0); (case hle => simp); (case hi => kernel_rfl); (case h1 => kernel_rfl); (intro w3 g3 P3; replace P3 := Lib.hid P3))
    refine bodyPost_cell_tmp g _ _ _ rfl rfl P3.out Tryz.underlying24 rfl (by kernel_rfl) rfl ?_
    exact ⟨by rw [HV.out]; rfl, below_grown b0 g3 b0.size (by have := HG.out; omega)⟩
  have d1 : decide (15 < (s.length : Int)) = false := decide_eq_false (by omega)
  go_enter Tryz.func66, Tryz.ntmps66
  go_upto_region 1 with fail
  rw [hg] at P0
  generalize w.alloc (.cells z4 24) = w1 at b0 P0 ⊢
  go_wp2_with fail
  refine (rCut_any w1 s 46 (by omega)).mono ?_
  rintro e w2 ⟨A, n, cc, rfl, ho, q2⟩
  have P2 := below_at q2 P0 (heap_lt P0)
  have b2 := b0.trans (q2.mono b0.size)
  have hn := ho.1
  have HG := Lib.hid hg
  have HN := Lib.hid hn
  clear hn hg b0 P0 q2
  by_cases h4 : n = 4
  case' neg =>
    have x1 : ((n : Int) != 4) = true := by rw [bne_iff_ne]; omega
    have HV := Lib.hid (parse_no (s := s) (fun h => h4 (by have := HN.out; omega)))
    clear h4
    go_wp2_with ((with_reducible apply at_store_part 24); (case hx => exact rfl); (case hy => exact rfl); (case hg => exact P2); (case hle => simp); (case hi => kernel_rfl); (case h1 => kernel_rfl); (intro w3 g3 P3; replace P3 := Lib.hid P3))
    refine bodyPost_cell_tmp g _ _ _ rfl rfl P3.out Tryz.underlying24 rfl (by kernel_rfl) rfl ?_
    exact ⟨by rw [HV.out]; rfl, below_grown b2 g3 b2.size (by have := HG.out; omega)⟩
  obtain ⟨b, o, rfl, hbl, _⟩ := ho.at_ (getD_some [] (show 0 < (cutB 46 s).length by have := HN.out; omega))
  subst h4
  have HO := Lib.hid ho
  clear ho
  go_upto_region 6 with fail
  go_upto_region 7 with ((with_reducible apply at_store_new 24); (case hx => exact rfl); (case hy => exact rfl); (case hg => first | rfl | simp); (case hi => kernel_rfl); (case hold => rfl); (case h1 => kernel_rfl))
  have Pa := heap_alloc_new w2 (.cells z4 24)
  have P3 := heap_alloc_of (o := .cells z4 24) P2
  have b3 := b2.alloc b2.size (.cells z4 24)
  have cells : ∀ j < 4, (w2.alloc (.cells z4 24)).cell? ⟨b, o + j, none⟩ = some (.string (str ((cutB 46 s).getD j []))) := fun j hj =>
    (World.cell?_of_block (w := w2) (a := ⟨b, o + j, none⟩) (Below.heap_alloc w2 _ b hbl)).trans (HO.out.cell (getD_some [] (by have := HN.out; omega))).2
  have hgk : g < w2.heap.size := heap_lt P2
  have lens : ∀ j < 4, ((cutB 46 s).getD j []).length ≤ 1099511627776 := fun j hj =>
    Nat.le_trans (cutB_mem 46 s _ (List.mem_iff_getElem?.2 ⟨j, getD_some [] (by have := HN.out; omega)⟩)) hl
  obtain ⟨ps, hps⟩ : ∃ ps, cutB 46 s = ps := ⟨_, rfl⟩
  rw [hps] at cells lens
  have HPS := Lib.hid hps
  have CELLS := Lib.hid cells
  have LENS := Lib.hid lens
  obtain ⟨k, hk⟩ : ∃ k, w2.heap.size = k := ⟨_, rfl⟩
  have HKS := Lib.hid (show k < (w2.alloc (.cells z4 24)).heap.size by simp; omega)
  have hb3 := b3.size
  rw [hk] at Pa hbl hgk ⊢
  clear hk cells lens hps P2 b2
  generalize w2.alloc (.cells z4 24) = wl at Pa P3 b3 CELLS HKS hb3 ⊢
  have PA := Lib.hid Pa
  clear Pa
  go_wp2_with fail
  go_loopw [6] (fun iv wr => ∃ j : Nat, iv = .int .i64 j ∧ j ≤ 4 ∧ okN ps j = true ∧ wr.heap[k]? = some (.cells (parC ps j) 24 (0, 0)) ∧ wl.grownBy wr (some k)) (fun iv _ => 4 - (intOf iv).toNat)
  case atStart => exact ⟨0, rfl, Nat.zero_le _, rfl, by rw [parC_zero]; exact PA.out, World.grownBy.refl _ _⟩
  case round =>
    clear PA
    obtain ⟨j, rfl, hj, hok, hPk, hgr⟩ := hrel
    have HOK := Lib.hid hok
    have HGR := Lib.hid hgr
    have hzr := hgr.size
    have PR := grown_at hgr P3 (by omega)
    have br := below_grown b3 hgr hb3 (by have := HG.out; omega)
    clear hok
    by_cases hlt : j < 4
    · have hc := grown_cell hgr (by have := HKS.out; omega) (by omega) (CELLS.out j hlt)
      have hjn : (0 : Int) ≤ (j : Int) ∧ (j : Int) < 4 := ⟨by omega, by omega⟩
      have hlj := LENS.out j hlt
      obtain ⟨p, hp⟩ : ∃ p, ps.getD j [] = p := ⟨_, rfl⟩
      rw [hp] at hc hlj
      have HP := Lib.hid hp
      have hnv := numV_le p
      clear hgr hp
      go_wp2_with fail
      refine (rnumber_any wr p 255 hlj (by decide)).mono ?_
      rintro e w4 ⟨rfl, rfl⟩
      clear hc
      by_cases hx : numOk p 255 = true
      · have hle := numOk_le hx
        rw [refNum_yes hx]
        have HX := Lib.hid hx
        obtain ⟨hcK, hfK⟩ := cells_of hPk
        have hcj : w4.cell? ⟨k, j, none⟩ = some ((parC ps j).getD j undef) := by
          rw [hcK j]
          rcases (show j = 0 ∨ j = 1 ∨ j = 2 ∨ j = 3 by omega) with rfl | rfl | rfl | rfl <;> rfl
        have K5 := Lib.hid (heap_set_cells (k := j) hPk (.int .u8 (numV p)))
        have d5 : decide ((numV p : Int) < 0) = false := decide_eq_false (by omega)
        clear hPk hcK hx
        go_wp2_with fail
        go_roundw
        case rel =>
          refine ⟨j + 1, by go_num, by omega, okN_iff.2 fun i hi => ?_, ?_, ?_⟩
          · rcases Nat.lt_or_ge i j with h | h
            · exact okN_iff.1 HOK.out i h
            · obtain rfl : i = j := by omega
              rw [HP.out]; exact HX.out
          · rw [← parC_step ps j hlt, HP.out]
            exact K5.out
          · exact grown_setCell HGR.out _ _
        case measure => simp [intOf]; omega
      · rw [refNum_bad hx]
        have HV := Lib.hid (parse_no (s := s) (fun h => by rw [HPS.out] at h; have := okN_iff.1 h.2 j hlt; rw [HP.out] at this; exact hx this))
        clear hx
        go_wp2_with ((with_reducible apply at_store_part 24); (case hx => exact rfl); (case hy => exact rfl); (case hg => exact PR); (case hle => simp); (case hi => kernel_rfl); (case h1 => kernel_rfl); (intro w5 g5 P5; replace P5 := Lib.hid P5))
        refine bodyPost_cell_tmp g _ _ _ rfl rfl P5.out Tryz.underlying24 rfl (by kernel_rfl) rfl ?_
        exact ⟨by rw [HV.out]; rfl, below_grown br g5 br.size (by have := HG.out; omega)⟩
    · obtain rfl : j = 4 := by omega
      have HV := Lib.hid (parse_yes (s := s) (by rw [HPS.out]; exact ⟨by rw [← HPS.out]; exact HN.out.symm, HOK.out⟩))
      clear hgr hlt
      go_wp2_with (((with_reducible apply at_load_row 24); (case hx => exact rfl); (case hg => exact hPk); (case hu => exact Tryz.underlying24); (case hd => rfl); (case hi => kernel_rfl)); (refine Hid.out ?_))
      refine Lib.hid ?_
      go_wp2_with ((with_reducible apply at_store_part 24); (case hx => exact rfl); (case hy => exact rfl); (case hg => exact PR); (case hle => rw [parC_size]; decide); (case hi => rw [parC_size]; kernel_rfl); (case h1 => exact parC_one ps); (intro w5 g5 P5; replace P5 := Lib.hid P5))
      have P6 := P5.out
      rw [splice4] at P6
      refine bodyPost_cell_tmp g _ _ _ rfl rfl P6 Tryz.underlying24 rfl (by kernel_rfl) rfl ?_
      refine ⟨?_, below_grown br g5 br.size (by have := HG.out; omega)⟩
      rw [HV.out, HPS.out, parC_end ps (okN_iff.1 HOK.out)]
      rfl
end
end Go.Proofs.YtnmdiageigbphaaGreatDoor
