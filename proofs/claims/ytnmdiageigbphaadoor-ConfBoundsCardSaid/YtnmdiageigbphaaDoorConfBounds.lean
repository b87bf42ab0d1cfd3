/-
  The walk of the statement ConfBounds.
-/
import Derived.Test.YtnmdiageigbphaaDoorKb1
import Derived.Test.YtnmdiageigbphaaDoorOctet5
namespace Go.Proofs.YtnmdiageigbphaaDoor
open Go.RowKit

set_option maxRecDepth 100000 in
theorem confBounds_out (w : World) (hm : mlIs w) (k v : Int) (hx : k < 0 ∨ 4 < k ∨ v < 0 ∨ 999999999 < v) : Calls Tryd.prog 4 #[.int .i64 k, .int .i64 v] w (TruePost w) := by
  rcases Int.lt_or_le k 0 with k1 | k1
  case' inl => have d1 : decide (k < 0) = true := decide_eq_true k1
  case' inr =>
    have d1 : decide (k < 0) = false := decide_eq_false (by omega)
    rcases Int.lt_or_le 4 k with k2 | k2
  case' inr.inl => have d2 : decide (4 < k) = true := decide_eq_true k2
  case' inr.inr =>
    have d2 : decide (4 < k) = false := decide_eq_false (by omega)
    rcases Int.lt_or_le v 0 with k3 | k3
  case' inr.inr.inl => have d3 : decide (v < 0) = true := decide_eq_true k3
  case' inr.inr.inr =>
    have d3 : decide (v < 0) = false := decide_eq_false (by omega)
    have d4 : decide (999999999 < v) = true := decide_eq_true (by omega)
  all_goals
    go_enter Tryd.func4, Tryd.ntmps4
    go_wp2_with fail
    refine (awake10_any w hm).mono ?_
    rintro e w1 ⟨rfl, q1⟩
    go_wp2_with fail
    go_ret
    exact ⟨rfl, q1⟩
def BndP (w : World) (c : Cf) (er : Int) (e : Ending) (w' : World) : Prop := ConfP w (c, 0, er) e w'
theorem bnd_parse (k v : Nat) (hk : k < 5) (hv : v < 1000000000) (er : Int) (he : er = if inR v (bLo k) (bHi k) = true then 0 else 1) :
    ∃ c, ∀ w, mlIs w → Calls Tryd.prog 9 #[.string (str (bN5 k ++ 61 :: decB v))] w (ConfP w (c, 0, er)) := by
  subst he
  refine ⟨if chkE (setC usC (bN5 k) (.n v)) = 0 then setC usC (bN5 k) (.n v) else cf0, fun w hm => ?_⟩
  have h := num_parse (bN_good k hk) v w hm hv
  rw [← bnd_chk k v hk]
  exact h
theorem bnd3 (lo hi : Int) (v : Nat) (er : Int) (h : er = if inR v lo hi = true then 0 else 1) :
    (decide (lo ≤ (v : Int)) = false ∧ er = 1) ∨ (decide (lo ≤ (v : Int)) = true ∧ decide ((v : Int) ≤ hi) = false ∧ er = 1) ∨ (decide (lo ≤ (v : Int)) = true ∧ decide ((v : Int) ≤ hi) = true ∧ er = 0) := by
  unfold inR at h
  by_cases h1 : lo ≤ (v : Int) <;> by_cases h2 : (v : Int) ≤ hi <;> simp [h1, h2] at h ⊢ <;> exact h
set_option maxRecDepth 100000 in
set_option maxHeartbeats 8000000 in
theorem confBounds_in (w : World) (hm : mlIs w) (k v : Nat) (hk : k < 5) (hv : v < 1000000000) : Calls Tryd.prog 4 #[.int .i64 k, .int .i64 v] w (TruePost w) := by
  have hmp := hm.pos
  have d1 : decide ((k : Int) < 0) = false := decide_eq_false (by omega)
  have d2 : decide (4 < (k : Int)) = false := decide_eq_false (by omega)
  have d3 : decide ((v : Int) < 0) = false := decide_eq_false (by omega)
  have d4 : decide (999999999 < (v : Int)) = false := decide_eq_false (by omega)
  obtain ⟨er, her⟩ : ∃ er : Int, er = if inR v (bLo k) (bHi k) = true then 0 else 1 := ⟨_, rfl⟩
  obtain ⟨c, hpa⟩ := bnd_parse k v hk hv er her
  have HER := Lib.hid her
  have HP := Lib.hid hpa
  have HM := Lib.hid hm
  have HV := Lib.hid hv
  have hdl := dec_len 8 v (by omega)
  obtain ⟨dv, hdv⟩ : ∃ l, decB v = l := ⟨_, rfl⟩
  have HDV := Lib.hid hdv
  rw [hdv] at hdl
  clear her hpa hdv
  rcases (show k = 0 ∨ k = 1 ∨ k = 2 ∨ k = 3 ∨ k = 4 by omega) with rfl | rfl | rfl | rfl | rfl
  case' inl =>
    have HD := Lib.hid (bnd3 60 86400 v er HER.out)
    have a1 : ∀ w, (Op.stringOp .add ⟨#[116, 105, 109, 101]⟩ ⟨#[61]⟩).run Tryd.prog w = .ok (.string (str [116, 105, 109, 101, 61])) w := fun w => str_addL w nTime [61] (by decide)
    have a2 : ∀ w, (Op.stringOp .add (str [116, 105, 109, 101, 61]) (str dv)).run Tryd.prog w = .ok (.string (str (bN5 0 ++ 61 :: dv))) w := fun w => str_addL w (nTime ++ [61]) dv (by simp; omega)
  case' inr.inl =>
    have HD := Lib.hid (bnd3 10 86400 v er HER.out)
    have a1 : ∀ w, (Op.stringOp .add ⟨#[117, 100, 112, 116, 105, 109, 101]⟩ ⟨#[61]⟩).run Tryd.prog w = .ok (.string (str [117, 100, 112, 116, 105, 109, 101, 61])) w := fun w => str_addL w nUdp [61] (by decide)
    have a2 : ∀ w, (Op.stringOp .add (str [117, 100, 112, 116, 105, 109, 101, 61]) (str dv)).run Tryd.prog w = .ok (.string (str (bN5 1 ++ 61 :: dv))) w := fun w => str_addL w (nUdp ++ [61]) dv (by simp; omega)
  case' inr.inr.inl =>
    have HD := Lib.hid (bnd3 10 86400 v er HER.out)
    have a1 : ∀ w, (Op.stringOp .add ⟨#[116, 99, 112, 116, 105, 109, 101]⟩ ⟨#[61]⟩).run Tryd.prog w = .ok (.string (str [116, 99, 112, 116, 105, 109, 101, 61])) w := fun w => str_addL w nTcp [61] (by decide)
    have a2 : ∀ w, (Op.stringOp .add (str [116, 99, 112, 116, 105, 109, 101, 61]) (str dv)).run Tryd.prog w = .ok (.string (str (bN5 2 ++ 61 :: dv))) w := fun w => str_addL w (nTcp ++ [61]) dv (by simp; omega)
  case' inr.inr.inr.inl =>
    have HD := Lib.hid (bnd3 10 86400 v er HER.out)
    have a1 : ∀ w, (Op.stringOp .add ⟨#[105, 99, 109, 112, 116, 105, 109, 101]⟩ ⟨#[61]⟩).run Tryd.prog w = .ok (.string (str [105, 99, 109, 112, 116, 105, 109, 101, 61])) w := fun w => str_addL w nIcmp [61] (by decide)
    have a2 : ∀ w, (Op.stringOp .add (str [105, 99, 109, 112, 116, 105, 109, 101, 61]) (str dv)).run Tryd.prog w = .ok (.string (str (bN5 3 ++ 61 :: dv))) w := fun w => str_addL w (nIcmp ++ [61]) dv (by simp; omega)
  case' inr.inr.inr.inr =>
    have HD := Lib.hid (bnd3 1024 60000 v er HER.out)
    have a1 : ∀ w, (Op.stringOp .add ⟨#[108, 111, 119]⟩ ⟨#[61]⟩).run Tryd.prog w = .ok (.string (str [108, 111, 119, 61])) w := fun w => str_addL w nLow [61] (by decide)
    have a2 : ∀ w, (Op.stringOp .add (str [108, 111, 119, 61]) (str dv)).run Tryd.prog w = .ok (.string (str (bN5 4 ++ 61 :: dv))) w := fun w => str_addL w (nLow ++ [61]) dv (by simp; omega)
  all_goals
    have HDL := Lib.hid hdl
    clear hv hdl hk
    go_enter Tryd.func4, Tryd.ntmps4
    go_wp2_with fail
    refine (awake10_any w hm).mono ?_
    rintro e w1 ⟨rfl, q1⟩
    clear hm
    have B1 := Lib.hid fun o1 o2 o3 => ((q1.alloc q1.size o1).alloc (q1.alloc q1.size o1).size o2).alloc ((q1.alloc q1.size o1).alloc (q1.alloc q1.size o1).size o2).size o3
    clear q1
    go_wp2_with fail
    refine (rtext_all _ v (by have := HV.out; omega)).mono ?_
    rw [HDV.out]
    rintro e w2 ⟨rfl, q2⟩
    have b2 := (B1.out _ _ _).trans (q2.mono (B1.out _ _ _).size)
    have m2 := HM.out.below b2 hmp
    have hpa := HP.out
    rw [HDV.out] at hpa
    clear B1 q2
    go_wp2_with fail
    refine (hpa w2 m2).mono ?_
    rintro e w3 ⟨rfl, q3⟩
    have b3 := b2.trans (q3.mono b2.size)
    clear hpa m2 b2 q3 a1 a2
    simp only
    go_upto_region 9 with ((with_reducible apply at_store_new 34); (case hx => exact rfl); (case hy => exact rfl); (case hg => first | rfl | simp); (case hi => kernel_rfl); (case hold => rfl); (case h1 => kernel_rfl))
    have b4 := fun o => b3.alloc b3.size o
    clear b3
    have b5 := b4 (.cells (cfC c nilS nilS) 34)
    generalize w3.alloc (.cells (cfC c nilS nilS) 34) = w4 at b5 ⊢
    clear b4
    rcases HD.out with ⟨e1, rfl⟩ | ⟨e1, e2, rfl⟩ | ⟨e1, e2, rfl⟩
    all_goals
      go_wp2_with fail
      go_ret
      exact ⟨rfl, b5⟩
theorem confBounds_any (w : World) (hm : mlIs w) (k : Int) (_ : (Lit.int .i64 k).wf = true) (v : Int) (_ : (Lit.int .i64 v).wf = true) :
    Calls Tryd.prog 4 #[.int .i64 k, .int .i64 v] w (TruePost w) := by
  by_cases hx : k < 0 ∨ 4 < k ∨ v < 0 ∨ 999999999 < v
  · exact confBounds_out w hm k v hx
  · rw [not_or, not_or, not_or] at hx
    obtain ⟨k, rfl⟩ := Int.eq_ofNat_of_zero_le (show 0 ≤ k by omega)
    obtain ⟨v, rfl⟩ := Int.eq_ofNat_of_zero_le (show 0 ≤ v by omega)
    exact confBounds_in w hm k v (by omega) (by omega)
end Go.Proofs.YtnmdiageigbphaaDoor
