/-
  The walk of the statement ConfTwice.
-/
import Derived.Test.YtnmdiageigbphaaDoorKt1
import Derived.Test.YtnmdiageigbphaaDoorOctet5
namespace Go.Proofs.YtnmdiageigbphaaDoor
open Go.RowKit

set_option maxRecDepth 100000 in
theorem confTwice_out (w : World) (hm : mlIs w) (k n : Int) (hx : k < 0 ∨ 5 < k ∨ n < 1 ∨ 30 < n) : Calls Tryd.prog 6 #[.int .i64 k, .int .i64 n] w (TruePost w) := by
  rcases Int.lt_or_le k 0 with k1 | k1
  case' inl => have d1 : decide (k < 0) = true := decide_eq_true k1
  case' inr =>
    have d1 : decide (k < 0) = false := decide_eq_false (by omega)
    rcases Int.lt_or_le 5 k with k2 | k2
  case' inr.inl => have d2 : decide (5 < k) = true := decide_eq_true k2
  case' inr.inr =>
    have d2 : decide (5 < k) = false := decide_eq_false (by omega)
    rcases Int.lt_or_le n 1 with k3 | k3
  case' inr.inr.inl => have d3 : decide (n < 1) = true := decide_eq_true k3
  case' inr.inr.inr =>
    have d3 : decide (n < 1) = false := decide_eq_false (by omega)
    have d4 : decide (30 < n) = true := decide_eq_true (by omega)
  all_goals
    go_enter Tryd.func6, Tryd.ntmps6
    go_wp2_with fail
    refine (awake10_any w hm).mono ?_
    rintro e w1 ⟨rfl, q1⟩
    go_wp2_with fail
    go_ret
    exact ⟨rfl, q1⟩
theorem str_addB (x y : List UInt8) (hx : x.length ≤ 100000) (hy : y.length ≤ 100000) : ∀ w, (Op.stringOp .add (str x) (str y)).run Tryd.prog w = .ok (.string (str (x ++ y))) w := fun w => str_addL w x y (by omega)
set_option maxRecDepth 100000 in
set_option maxHeartbeats 16000000 in
theorem confTwice_in (w : World) (hm : mlIs w) (k n : Nat) (hk : k < 6) (hn1 : 1 ≤ n) (hn : n ≤ 30) : Calls Tryd.prog 6 #[.int .i64 k, .int .i64 n] w (TruePost w) := by
  have hmp := hm.pos
  have d1 : decide ((k : Int) < 0) = false := decide_eq_false (by omega)
  have d2 : decide (5 < (k : Int)) = false := decide_eq_false (by omega)
  have d3 : decide ((n : Int) < 1) = false := decide_eq_false (by omega)
  have d4 : decide (30 < (n : Int)) = false := decide_eq_false (by omega)
  have w2n : IntKind.i64.wrap ((n : Int) + 2) = (n : Int) + 2 := IntWalk.i64_in _ (by omega)
  obtain ⟨LL, hLL⟩ : ∃ l, lineT k ++ [10] = l := ⟨_, rfl⟩
  have hlen : LL.length ≤ 31 := by rw [← hLL]; have := (good_T k hk).2.2.2.1; simp; omega
  have htl := fun j (hj : j ≤ 1000) => openT_len j hj
  have HP2 := Lib.hid (show ∀ w, mlIs w → Calls Tryd.prog 9 #[.string (str (LL ++ openT n ++ LL))] w (ParseGP w (zG, ((n : Int) + 2), 8)) from fun w hm => by
    have h := parse_all w hm (tw2 k n) (by have := htl n (by omega); have := (good_T k hk).2.2.2.1; simp [tw2]; omega)
    rw [parse_tw2 k n hk hn, tw2, hLL] at h
    exact h)
  have HP1 := Lib.hid (show ∀ w, mlIs w → Calls Tryd.prog 9 #[.string (str (openT n ++ LL))] w (ParseGP w (⟨cfT k, [], opsT n⟩, 0, 0)) from fun w hm => by
    have h := parse_all w hm (tw1 k n) (by have := htl n (by omega); have := (good_T k hk).2.2.2.1; simp [tw1]; omega)
    rw [parse_tw1 k n hk hn, tw1, hLL] at h
    exact h)
  obtain ⟨cf, hcf⟩ : ∃ c, cfT k = c := ⟨_, rfl⟩
  rw [hcf] at HP1
  have HLL := Lib.hid hLL
  have HM := Lib.hid hm
  have HN := Lib.hid (⟨hn1, hn⟩ : _ ∧ _)
  have HTL := Lib.hid htl
  have HLEN := Lib.hid hlen
  clear hLL hcf hlen hn1 hn htl
  go_enter Tryd.func6, Tryd.ntmps6
  go_wp2_with fail
  refine (awake10_any w hm).mono ?_
  rintro e w1 ⟨rfl, q1⟩
  clear hm
  go_upto_region 5 with fail
  go_cut [5] (fun v5 wx => v5 = .string (str LL) ∧ Below w.heap.size w wx)
  case first =>
    have b2 := fun o => q1.alloc q1.size o
    clear HP1 HP2
    rcases (show k = 0 ∨ k = 1 ∨ k = 2 ∨ k = 3 ∨ k = 4 ∨ k = 5 by omega) with rfl | rfl | rfl | rfl | rfl | rfl
    case' inl =>
      have a1 : ∀ w, (Op.stringOp .add ⟨#[116, 105, 109, 101, 32, 61, 32, 54, 48]⟩ ⟨#[10]⟩).run Tryd.prog w = .ok (.string (str LL)) w := by rw [← HLL.out]; exact fun w => str_addL w [116, 105, 109, 101, 32, 61, 32, 54, 48] [10] (by decide)
    case' inr.inl =>
      have a1 : ∀ w, (Op.stringOp .add ⟨#[100, 110, 115, 32, 61, 32, 49, 46, 49, 46, 49, 46, 49]⟩ ⟨#[10]⟩).run Tryd.prog w = .ok (.string (str LL)) w := by rw [← HLL.out]; exact fun w => str_addL w [100, 110, 115, 32, 61, 32, 49, 46, 49, 46, 49, 46, 49] [10] (by decide)
    case' inr.inr.inl =>
      have a1 : ∀ w, (Op.stringOp .add ⟨#[108, 111, 119, 61, 51, 48, 48, 48, 48]⟩ ⟨#[10]⟩).run Tryd.prog w = .ok (.string (str LL)) w := by rw [← HLL.out]; exact fun w => str_addL w [108, 111, 119, 61, 51, 48, 48, 48, 48] [10] (by decide)
    case' inr.inr.inr.inl =>
      have a1 : ∀ w, (Op.stringOp .add ⟨#[108, 97, 110, 32, 61, 32, 49, 57, 50, 46, 49, 54, 56, 46, 49, 46, 49, 47, 50, 52]⟩ ⟨#[10]⟩).run Tryd.prog w = .ok (.string (str LL)) w := by rw [← HLL.out]; exact fun w => str_addL w [108, 97, 110, 32, 61, 32, 49, 57, 50, 46, 49, 54, 56, 46, 49, 46, 49, 47, 50, 52] [10] (by decide)
    case' inr.inr.inr.inr.inl =>
      have a1 : ∀ w, (Op.stringOp .add ⟨#[108, 97, 110, 109, 97, 99, 32, 61, 32, 48, 50, 58, 48, 48, 58, 48, 48, 58, 48, 48, 58, 48, 48, 58, 48, 97]⟩ ⟨#[10]⟩).run Tryd.prog w = .ok (.string (str LL)) w := by rw [← HLL.out]; exact fun w => str_addL w [108, 97, 110, 109, 97, 99, 32, 61, 32, 48, 50, 58, 48, 48, 58, 48, 48, 58, 48, 48, 58, 48, 48, 58, 48, 97] [10] (by decide)
    case' inr.inr.inr.inr.inr =>
      have a1 : ∀ w, (Op.stringOp .add ⟨#[102, 105, 114, 115, 116, 32, 61, 32, 49, 57, 50, 46, 49, 54, 56, 46, 49, 46, 49, 50, 48]⟩ ⟨#[10]⟩).run Tryd.prog w = .ok (.string (str LL)) w := by rw [← HLL.out]; exact fun w => str_addL w [102, 105, 114, 115, 116, 32, 61, 32, 49, 57, 50, 46, 49, 54, 56, 46, 49, 46, 49, 50, 48] [10] (by decide)
    all_goals
      clear hk HLL
      go_wp2_with fail
      go_meet
      exact ⟨rfl, b2 _⟩
  case rest =>
    obtain ⟨rfl, b2⟩ := hcut
    clear q1 hk HLL
    go_wp2_with fail
    go_loopw [6, 7] (fun s i wr => ∃ j : Nat, j ≤ n ∧ i = .int .i64 j ∧ s = .string (str (openT j)) ∧ Below w.heap.size w wr) (fun _ i _ => n - (intOf i).toNat)
    case atStart => exact ⟨0, Nat.zero_le _, rfl, rfl, b2⟩
    case round =>
      clear b2
      obtain ⟨j, hj, rfl, rfl, b1⟩ := hrel
      rcases Nat.lt_or_ge j n with hlt | hge
      · have hlti : decide ((j : Int) < (n : Int)) = true := decide_eq_true (by omega)
        have w64 : IntKind.i64.wrap ((j : Int) + 1) = (j : Int) + 1 := IntWalk.i64_in _ (by have := HN.out.2; omega)
        obtain ⟨m, hmm⟩ : ∃ m : Nat, 100 + j = m := ⟨_, rfl⟩
        have hnb := HN.out.2
        have w100 : IntKind.i64.wrap (100 + (j : Int)) = 100 + (j : Int) := IntWalk.i64_in _ (by omega)
        have HRT := Lib.hid (show ∀ w, Calls Tryd.prog 12 #[.int .i64 (100 + (j : Int))] w (SPost w (decB m)) from fun w => by
          have h := rtext_all w m (by omega)
          rwa [show (m : Int) = 100 + (j : Int) by omega] at h)
        have hol := HTL.out j (by have := HN.out.2; omega)
        have hdl := decB_le m (by omega)
        obtain ⟨U, hU⟩ : ∃ U, openT j = U := ⟨_, rfl⟩
        obtain ⟨D, hD⟩ : ∃ D, decB m = D := ⟨_, rfl⟩
        have HS := Lib.hid (show openT (j + 1) = U ++ preO ++ D ++ (sufO ++ [10]) by rw [openT, opnL, hmm, hU, hD]; simp)
        have hUl : U.length ≤ 1500 := by rw [← hU]; have := HN.out.2; omega
        rw [hU]
        rw [hD] at hdl
        have HD := Lib.hid hD
        have a2 : ∀ w, (Op.stringOp .add (str U) ⟨#[111, 112, 101, 110, 32, 61, 32, 117, 100, 112, 32]⟩).run Tryd.prog w = .ok (.string (str (U ++ preO))) w := str_addB U preO (by omega) (by decide)
        obtain ⟨U2, hU2⟩ : ∃ x, U ++ preO = x := ⟨_, rfl⟩
        have hU2l : U2.length ≤ 1600 := by rw [← hU2]; simp [preO]; omega
        have a3 := str_addB U2 D (by omega) (by omega)
        obtain ⟨U3, hU3⟩ : ∃ x, U2 ++ D = x := ⟨_, rfl⟩
        have hU3l : U3.length ≤ 1700 := by rw [← hU3]; simp; omega
        have a4 : ∀ w, (Op.stringOp .add (str U3) ⟨#[32, 49, 57, 50, 46, 49, 54, 56, 46, 49, 46, 57, 32, 56, 48, 10]⟩).run Tryd.prog w = .ok (.string (str (U3 ++ (sufO ++ [10])))) w := by rw [show sufO ++ [10] = [32, 49, 57, 50, 46, 49, 54, 56, 46, 49, 46, 57, 32, 56, 48, 10] from rfl]; exact str_addB U3 [32, 49, 57, 50, 46, 49, 54, 56, 46, 49, 46, 57, 32, 56, 48, 10] (by omega) (by decide)
        obtain ⟨U4, hU4⟩ : ∃ x, U3 ++ (sufO ++ [10]) = x := ⟨_, rfl⟩
        rw [hU2] at a2
        rw [hU3] at a3
        rw [hU4] at a4
        have HS2 := Lib.hid (show openT (j + 1) = U4 by rw [HS.out, hU2, hU3, hU4])
        have HLT := Lib.hid hlt
        clear hmm hU hD hU2 hU3 hU4 hol hdl hUl hU2l hU3l hlt HS hj hnb
        go_wp2_with fail
        refine (HRT.out _).mono ?_
        rw [HD.out]
        rintro e w2 ⟨rfl, q2⟩
        have b3 := b1.trans (q2.mono b1.size)
        clear b1 q2
        go_wp2_with fail
        go_roundw
        case rel => exact ⟨j + 1, HLT.out, by push_cast; rfl, by rw [HS2.out], b3⟩
        case measure => have := HLT.out; simp [intOf]; omega
      · obtain rfl : j = n := by omega
        have hlti : decide ((j : Int) < (j : Int)) = false := decide_eq_false (by omega)
        have hp1 := HP1.out
        have hp2 := HP2.out
        have hol := HTL.out j (by have := HN.out.2; omega)
        have hll := HLEN.out
        have m1 := HM.out.below b1 hmp
        obtain ⟨U, hU⟩ : ∃ U, openT j = U := ⟨_, rfl⟩
        rw [hU] at hp1 hp2 hol ⊢
        have hol2 : U.length ≤ 1500 := by have := HN.out.2; omega
        have a2 := str_addB LL U (by omega) (by omega)
        have a3 := str_addB (LL ++ U) LL (by simp; omega) (by omega)
        have a4 := str_addB U LL (by omega) (by omega)
        obtain ⟨T2, hT2⟩ : ∃ x, LL ++ U ++ LL = x := ⟨_, rfl⟩
        obtain ⟨T1, hT1⟩ : ∃ x, U ++ LL = x := ⟨_, rfl⟩
        obtain ⟨T0, hT0⟩ : ∃ x, LL ++ U = x := ⟨_, rfl⟩
        rw [hT2] at hp2 a3
        rw [hT1] at hp1 a4
        rw [hT0] at a2 a3
        have HP1' := Lib.hid hp1
        have HP2' := Lib.hid hp2
        clear hp1 hp2 hol hol2 hll hU hT2 hT1 hT0 hj hge
        go_wp2_with fail
        refine (HP2'.out wr m1).mono ?_
        rintro e w3 ⟨Ax, nx, kx, Ay, ny, ky, rfl, _, _, CX, q3⟩
        have b3 := b1.trans (q3.mono b1.size)
        clear b1 q3 m1 CX a2 a3
        simp only [zG]
        go_upto_region 12 with ((with_reducible apply at_store_new 34); (case hx => exact rfl); (case hy => exact rfl); (case hg => first | rfl | simp); (case hi => kernel_rfl); (case hold => rfl); (case h1 => kernel_rfl))
        have b4 : Below w.heap.size w (w3.alloc (.cells (cfC cf0 (.slice Ax nx kx) (.slice Ay ny ky)) 34)) := b3.alloc b3.size _
        generalize w3.alloc (.cells (cfC cf0 (.slice Ax nx kx) (.slice Ay ny ky)) 34) = w4 at b4 ⊢
        have m4 := HM.out.below b4 hmp
        clear b3
        go_wp2_with fail
        refine (HP1'.out w4 m4).mono ?_
        rintro e w5 ⟨Ap, np, kp, Aq, nq, kq, rfl, _, _, CX, q5⟩
        have b5 := b4.trans (q5.mono b4.size)
        obtain rfl : nq = j := by have := CX.no; simpa [opsT] using this
        clear b4 q5 m4 CX a4
        simp only
        go_upto_region 13 with ((with_reducible apply at_store_new 34); (case hx => exact rfl); (case hy => exact rfl); (case hg => first | rfl | simp); (case hi => kernel_rfl); (case hold => rfl); (case h1 => kernel_rfl))
        have b6 : Below w.heap.size w (w5.alloc (.cells (cfC cf (.slice Ap np kp) (.slice Aq nq kq)) 34)) := b5.alloc b5.size _
        have fz := (cells_of (heap_alloc_new w5 (.cells (cfC cf (.slice Ap np kp) (.slice Aq nq kq)) 34))).1
        obtain ⟨gq, hgq⟩ : ∃ g, w5.heap.size = g := ⟨_, rfl⟩
        rw [hgq] at fz ⊢
        generalize w5.alloc (.cells (cfC cf (.slice Ap np kp) (.slice Aq nq kq)) 34) = w6 at b6 fz ⊢
        clear b5 hgq
        go_wp2_with fail
        go_ret
        exact ⟨rfl, b6⟩

theorem confTwice_any (w : World) (hm : mlIs w) (k : Int) (_ : (Lit.int .i64 k).wf = true) (n : Int) (_ : (Lit.int .i64 n).wf = true) :
    Calls Tryd.prog 6 #[.int .i64 k, .int .i64 n] w (TruePost w) := by
  by_cases hx : k < 0 ∨ 5 < k ∨ n < 1 ∨ 30 < n
  · exact confTwice_out w hm k n hx
  · rw [not_or, not_or, not_or] at hx
    obtain ⟨k, rfl⟩ := Int.eq_ofNat_of_zero_le (show 0 ≤ k by omega)
    obtain ⟨n, rfl⟩ := Int.eq_ofNat_of_zero_le (show 0 ≤ n by omega)
    exact confTwice_in w hm k n (by omega) (by omega) (by omega)
end Go.Proofs.YtnmdiageigbphaaDoor
