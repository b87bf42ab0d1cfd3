/-
  The walk of the statement ConfLines.
-/
import Derived.Test.YtnmdiageigbphaaDoorKl1
import Derived.Test.YtnmdiageigbphaaDoorOctet5
namespace Go.Proofs.YtnmdiageigbphaaDoor
open Go.RowKit

set_option maxRecDepth 100000 in
theorem confLines_out (w : World) (hm : mlIs w) (n m h : Int) (hx : n < 0 ∨ 300 < n ∨ m < 0 ∨ 90 < m) : Calls Tryd.prog 5 #[.int .i64 n, .int .i64 m, .int .i64 h] w (TruePost w) := by
  rcases Int.lt_or_le n 0 with k1 | k1
  case' inl => have d1 : decide (n < 0) = true := decide_eq_true k1
  case' inr =>
    have d1 : decide (n < 0) = false := decide_eq_false (by omega)
    rcases Int.lt_or_le 300 n with k2 | k2
  case' inr.inl => have d2 : decide (300 < n) = true := decide_eq_true k2
  case' inr.inr =>
    have d2 : decide (300 < n) = false := decide_eq_false (by omega)
    rcases Int.lt_or_le m 0 with k3 | k3
  case' inr.inr.inl => have d3 : decide (m < 0) = true := decide_eq_true k3
  case' inr.inr.inr =>
    have d3 : decide (m < 0) = false := decide_eq_false (by omega)
    have d4 : decide (90 < m) = true := decide_eq_true (by omega)
  all_goals
    go_enter Tryd.func5, Tryd.ntmps5
    go_wp2_with fail
    refine (awake10_any w hm).mono ?_
    rintro e w1 ⟨rfl, q1⟩
    go_wp2_with fail
    go_ret
    exact ⟨rfl, q1⟩
theorem str_addB (x y : List UInt8) (hx : x.length ≤ 100000) (hy : y.length ≤ 100000) : ∀ w, (Op.stringOp .add (str x) (str y)).run Tryd.prog w = .ok (.string (str (x ++ y))) w := fun w => str_addL w x y (by omega)
set_option maxRecDepth 100000 in
set_option maxHeartbeats 8000000 in
theorem confLines_in (w : World) (hm : mlIs w) (n m : Nat) (h : Int) (hn : n ≤ 300) (hmm : m ≤ 90) : Calls Tryd.prog 5 #[.int .i64 n, .int .i64 m, .int .i64 h] w (TruePost w) := by
  have hmp := hm.pos
  have d1 : decide ((n : Int) < 0) = false := decide_eq_false (by omega)
  have d2 : decide (300 < (n : Int)) = false := decide_eq_false (by omega)
  have d3 : decide ((m : Int) < 0) = false := decide_eq_false (by omega)
  have d4 : decide (90 < (m : Int)) = false := decide_eq_false (by omega)
  obtain ⟨k, hk4, hand⟩ : ∃ k : Nat, k < 4 ∧ bits BinOp.and IntKind.i64 h 3 = (k : Int) := by
    refine ⟨(h % 4).toNat, by omega, ?_⟩
    have := and_mask h 3 2 rfl (by omega)
    rw [show ((3 : Nat) : Int) = 3 from rfl] at this
    rw [this]
    omega
  have HP := Lib.hid fun w hm => lin_parse w hm n m k hn hmm hk4
  have HPL := Lib.hid fun j => pre_len j
  have HBL := Lib.hid (bl_len k hk4)
  have HM := Lib.hid hm
  have HN := Lib.hid hn
  have HMM := Lib.hid hmm
  clear hn hmm
  go_enter Tryd.func5, Tryd.ntmps5
  go_wp2_with fail
  refine (awake10_any w hm).mono ?_
  rintro e w1 ⟨rfl, q1⟩
  clear hm
  go_wp2_with fail
  go_loopw [7, 8] (fun s i wr => ∃ j : Nat, j ≤ n ∧ i = .int .i64 j ∧ s = .string (str (preT j)) ∧ Below w.heap.size w wr) (fun _ i _ => n - (intOf i).toNat)
  case atStart => exact ⟨0, Nat.zero_le _, rfl, rfl, q1⟩
  case round =>
    clear q1
    obtain ⟨j, hj, rfl, rfl, b1⟩ := hrel
    rcases Nat.lt_or_ge j n with hlt | hge
    · have hlti : decide ((j : Int) < (n : Int)) = true := decide_eq_true (by omega)
      have hr : (j : Int).tmod 3 = ((j % 3 : Nat) : Int) := by rw [Int.tmod_eq_emod_of_nonneg (by omega)]; omega
      have w64 : IntKind.i64.wrap ((j : Int) + 1) = (j : Int) + 1 := IntWalk.i64_in _ (by have := HN.out; omega)
      have hst : preT (j + 1) = preT j ++ (ql (j % 3) ++ [10]) := rfl
      have hpl := HPL.out j
      have hs := b1.size
      have hjk := three_cases (fun k => k = 0 ∨ k = 1 ∨ k = 2) j (.inl rfl) (.inr (.inl rfl)) (.inr (.inr rfl))
      obtain ⟨p, hp⟩ : ∃ p, preT j = p := ⟨_, rfl⟩
      rw [hp] at hst hpl ⊢
      obtain ⟨k3, hk3⟩ : ∃ k, j % 3 = k := ⟨_, rfl⟩
      rw [hk3] at hr hjk hst
      have HS := Lib.hid hst
      have HLT := Lib.hid hlt
      clear hp hk3 hst
      rcases hjk with rfl | rfl | rfl
      · replace hr : (j : Int).tmod 3 = 0 := hr
        have a1 : ∀ w, (Op.stringOp .add (str p) ⟨#[10]⟩).run Tryd.prog w = .ok (.string (str (p ++ [10]))) w := str_addB p [10] (by have := HN.out; omega) (by decide)
        have b2 := fun o => b1.alloc hs o
        clear hpl
        go_wp2_with fail
        go_roundw
        case rel => exact ⟨j + 1, HLT.out, by push_cast; rfl, by rw [HS.out]; rfl, b2 _⟩
        case measure => have := HLT.out; simp [intOf]; omega
      · replace hr : (j : Int).tmod 3 = 1 := hr
        have a1 : ∀ w, (Op.stringOp .add (str p) ⟨#[35, 32, 120, 10]⟩).run Tryd.prog w = .ok (.string (str (p ++ [35, 32, 120, 10]))) w := str_addB p [35, 32, 120, 10] (by have := HN.out; omega) (by decide)
        have b2 := fun o => b1.alloc hs o
        clear hpl
        go_wp2_with fail
        go_roundw
        case rel => exact ⟨j + 1, HLT.out, by push_cast; rfl, by rw [HS.out]; rfl, b2 _⟩
        case measure => have := HLT.out; simp [intOf]; omega
      · replace hr : (j : Int).tmod 3 = 2 := hr
        have a1 : ∀ w, (Op.stringOp .add (str p) ⟨#[32, 9, 10]⟩).run Tryd.prog w = .ok (.string (str (p ++ [32, 9, 10]))) w := str_addB p [32, 9, 10] (by have := HN.out; omega) (by decide)
        have b2 := fun o => b1.alloc hs o
        clear hpl
        go_wp2_with fail
        go_roundw
        case rel => exact ⟨j + 1, HLT.out, by push_cast; rfl, by rw [HS.out]; rfl, b2 _⟩
        case measure => have := HLT.out; simp [intOf]; omega
    · obtain rfl : j = n := by omega
      have hs := b1.size
      have hpl := HPL.out j
      have hTL : linT j m k = (preT j ++ bl k ++ [10]) ++ postT m := rfl
      obtain ⟨p, hp⟩ : ∃ p, preT j = p := ⟨_, rfl⟩
      rw [hp] at hpl hTL ⊢
      obtain ⟨T, hT⟩ : ∃ T, p ++ bl k ++ [10] = T := ⟨_, rfl⟩
      rw [hT] at hTL
      have hTl : T.length ≤ 1213 := by have := HN.out; have := HBL.out; rw [← hT]; simp; omega
      have HTL := Lib.hid hTL
      have HT := Lib.hid hT
      have hpl2 : p.length ≤ 1200 := by have := HN.out; omega
      have b2 := fun o => b1.alloc hs o
      have HKK := Lib.hid hand
      have hjk : k = 0 ∨ k = 1 ∨ k = 2 ∨ k = 3 := by omega
      clear hpl b1 hs hge hk4 hp hT hTL hand HBL
      rcases hjk with rfl | rfl | rfl | rfl
      case' inr.inl =>
        have hand : bits BinOp.and IntKind.i64 h 3 = 0 := HKK.out
        have a1 : ∀ w, (Op.stringOp .add (str p) ⟨#[120]⟩).run Tryd.prog w = .ok (.string (str (p ++ [120]))) w := str_addB p [120] (by omega) (by decide)
        have a2 : ∀ w, (Op.stringOp .add (str (p ++ [120])) ⟨#[10]⟩).run Tryd.prog w = .ok (.string (str ((p ++ [120]) ++ [10]))) w := str_addB (p ++ [120]) [10] (by simp; omega) (by decide)
      case' inr.inr.inl =>
        have hand : bits BinOp.and IntKind.i64 h 3 = 1 := HKK.out
        have a1 : ∀ w, (Op.stringOp .add (str p) ⟨#[116, 105, 109, 101]⟩).run Tryd.prog w = .ok (.string (str (p ++ [116, 105, 109, 101]))) w := str_addB p [116, 105, 109, 101] (by omega) (by decide)
        have a2 : ∀ w, (Op.stringOp .add (str (p ++ [116, 105, 109, 101])) ⟨#[10]⟩).run Tryd.prog w = .ok (.string (str ((p ++ [116, 105, 109, 101]) ++ [10]))) w := str_addB (p ++ [116, 105, 109, 101]) [10] (by simp; omega) (by decide)
      case' inr.inr.inr.inl =>
        have hand : bits BinOp.and IntKind.i64 h 3 = 2 := HKK.out
        have a1 : ∀ w, (Op.stringOp .add (str p) ⟨#[116, 105, 109, 101, 32, 61, 32]⟩).run Tryd.prog w = .ok (.string (str (p ++ [116, 105, 109, 101, 32, 61, 32]))) w := str_addB p [116, 105, 109, 101, 32, 61, 32] (by omega) (by decide)
        have a2 : ∀ w, (Op.stringOp .add (str (p ++ [116, 105, 109, 101, 32, 61, 32])) ⟨#[10]⟩).run Tryd.prog w = .ok (.string (str ((p ++ [116, 105, 109, 101, 32, 61, 32]) ++ [10]))) w := str_addB (p ++ [116, 105, 109, 101, 32, 61, 32]) [10] (by simp; omega) (by decide)
      case' inr.inr.inr.inr =>
        have hand : bits BinOp.and IntKind.i64 h 3 = 3 := HKK.out
        have a1 : ∀ w, (Op.stringOp .add (str p) ⟨#[116, 105, 109, 101, 32, 61, 32, 54, 48, 32, 55, 48]⟩).run Tryd.prog w = .ok (.string (str (p ++ [116, 105, 109, 101, 32, 61, 32, 54, 48, 32, 55, 48]))) w := str_addB p [116, 105, 109, 101, 32, 61, 32, 54, 48, 32, 55, 48] (by omega) (by decide)
        have a2 : ∀ w, (Op.stringOp .add (str (p ++ [116, 105, 109, 101, 32, 61, 32, 54, 48, 32, 55, 48])) ⟨#[10]⟩).run Tryd.prog w = .ok (.string (str ((p ++ [116, 105, 109, 101, 32, 61, 32, 54, 48, 32, 55, 48]) ++ [10]))) w := str_addB (p ++ [116, 105, 109, 101, 32, 61, 32, 54, 48, 32, 55, 48]) [10] (by simp; omega) (by decide)
      all_goals
        clear hpl2
        have HTl := Lib.hid hTl
        clear hTl
        go_wp2_with fail
        go_loopw [7, 9] (fun s i wr => ∃ jj : Nat, jj ≤ m ∧ i = .int .i64 jj ∧ s = .string (str (T ++ postT jj)) ∧ Below w.heap.size w wr) (fun _ i _ => m - (intOf i).toNat)
        case atStart => exact ⟨0, Nat.zero_le _, rfl, by rw [show postT 0 = [] from rfl, List.append_nil, ← HT.out]; simp [bl], b2 _⟩
        case round =>
          clear a1 a2 b2 hand
          obtain ⟨jj, hj, rfl, rfl, b1⟩ := hrel
          rcases Nat.lt_or_ge jj m with hlt | hge
          · have hlti : decide ((jj : Int) < (m : Int)) = true := decide_eq_true (by omega)
            have w64 : IntKind.i64.wrap ((jj : Int) + 1) = (jj : Int) + 1 := IntWalk.i64_in _ (by have := HMM.out; omega)
            have a1 : ∀ w, (Op.stringOp .add (str (T ++ postT jj)) ⟨#[119, 104, 97, 116, 10]⟩).run Tryd.prog w = .ok (.string (str ((T ++ postT jj) ++ [119, 104, 97, 116, 10]))) w := str_addB (T ++ postT jj) [119, 104, 97, 116, 10] (by have := HTl.out; have := HMM.out; have := post_len jj; simp; omega) (by decide)
            have HS := Lib.hid (show T ++ postT (jj + 1) = (T ++ postT jj) ++ [119, 104, 97, 116, 10] by rw [List.append_assoc]; rfl)
            have HLT := Lib.hid hlt
            obtain ⟨U, hU⟩ : ∃ U, T ++ postT jj = U := ⟨_, rfl⟩
            rw [hU] at a1 HS ⊢
            clear hU hlt
            go_wp2_with fail
            go_roundw
            case rel => exact ⟨jj + 1, HLT.out, by push_cast; rfl, by rw [HS.out], b1⟩
            case measure => have := HLT.out; simp [intOf]; omega
          · obtain rfl : jj = m := by omega
            have hlti : decide ((jj : Int) < (jj : Int)) = false := decide_eq_false (by omega)
            rw [← HTL.out]
            have hpa := HP.out
            have m1 := HM.out.below b1 hmp
            have w64 : IntKind.i64.wrap ((j : Int) + 1) = (j : Int) + 1 := IntWalk.i64_in _ (by have := HN.out; omega)
            clear hj
            go_wp2_with fail
            refine (hpa wr m1).mono ?_
            rintro e w3 ⟨rfl, q3⟩
            have b3 := b1.trans (q3.mono b1.size)
            clear hpa m1 b1 q3
            simp only
            go_wp2_with ((with_reducible apply at_store_new 34); (case hx => exact rfl); (case hy => exact rfl); (case hg => first | rfl | simp); (case hi => kernel_rfl); (case hold => rfl); (case h1 => kernel_rfl))
            go_ret
            exact ⟨rfl, b3.alloc b3.size _⟩
theorem confLines_any (w : World) (hm : mlIs w) (n : Int) (_ : (Lit.int .i64 n).wf = true) (m : Int) (_ : (Lit.int .i64 m).wf = true) (h : Int) (_ : (Lit.int .i64 h).wf = true) :
    Calls Tryd.prog 5 #[.int .i64 n, .int .i64 m, .int .i64 h] w (TruePost w) := by
  by_cases hx : n < 0 ∨ 300 < n ∨ m < 0 ∨ 90 < m
  · exact confLines_out w hm n m h hx
  · rw [not_or, not_or, not_or] at hx
    obtain ⟨n, rfl⟩ := Int.eq_ofNat_of_zero_le (show 0 ≤ n by omega)
    obtain ⟨m, rfl⟩ := Int.eq_ofNat_of_zero_le (show 0 ≤ m by omega)
    exact confLines_in w hm n m h (by omega) (by omega)
end Go.Proofs.YtnmdiageigbphaaDoor
