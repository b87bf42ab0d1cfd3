/-
  gatehousetop.TopTcp: its first question by hand; the run of the rest is given.
-/
import Derived.Test.YtccbdaffjkdpgaaGreatDoorTs
import Derived.Test.YtccbdaffjkdpgaaGreatDoorTn8
namespace Go.Proofs.YtccbdaffjkdpgaaGreatDoor
open Go.RowKit

def FullPost (w : World) (e : Ending) (w' : World) : Prop := e = .returned (.bool true) ∧ Below w.heap.size w w'

set_option maxRecDepth 100000 in
set_option maxHeartbeats 8000000 in
theorem tcp_out (w : World) (hm : mlIs w) (n v p k : Int) (h : n < 0 ∨ 2 < n ∨ p < 1 ∨ 65535 < p ∨ k < 0 ∨ 100 < k) : Calls Tryz.prog 3 #[.int .i64 n, .int .i64 v, .int .i64 p, .int .i64 k] w (FullPost w) := by
  go_enter Tryz.func3, Tryz.ntmps3
  go_wp2_with fail
  refine (awakeT_any w hm).mono ?_
  rintro e w1 ⟨rfl, q1⟩
  have hb : (decide (n < 0) = true) ∨ (decide (n < 0) = false ∧ decide (2 < n) = true) ∨ (decide (n < 0) = false ∧ decide (2 < n) = false ∧ decide (p < 1) = true) ∨ (decide (n < 0) = false ∧ decide (2 < n) = false ∧ decide (p < 1) = false ∧ decide (65535 < p) = true) ∨
      (decide (n < 0) = false ∧ decide (2 < n) = false ∧ decide (p < 1) = false ∧ decide (65535 < p) = false ∧ decide (k < 0) = true) ∨ (decide (n < 0) = false ∧ decide (2 < n) = false ∧ decide (p < 1) = false ∧ decide (65535 < p) = false ∧ decide (k < 0) = false ∧ decide (100 < k) = true) := by
    simp only [decide_eq_true_eq, decide_eq_false_iff_not]
    omega
  clear h
  rcases hb with d1 | ⟨d1, d2⟩ | ⟨d1, d2, d3⟩ | ⟨d1, d2, d3, d4⟩ | ⟨d1, d2, d3, d4, d5⟩ | ⟨d1, d2, d3, d4, d5, d6⟩
  all_goals
    go_wp2_with fail
    go_ret
    exact ⟨rfl, q1⟩

namespace Vw
theorem zip_ok [Val] {tm : Array Value} {live : List Nat} {fl : List Value} (h : ∀ p ∈ live.zip fl, wf 0 ren00 p.2 ∧ tm[p.1]? = some (ren ren00 p.2)) (t i : Nat) (v : Value) (hi : idxOf t live 0 = some i) (hv : fl[i]? = some v) : wf 0 ren00 v ∧ tm[t]? = some (ren ren00 v) := by
  obtain ⟨_, hit⟩ := idxOf_some t live 0 i hi
  rw [Nat.sub_zero] at hit
  exact h (t, v) (List.mem_iff_getElem?.2 ⟨i, by rw [List.getElem?_zip_eq_some]; exact ⟨hit, hv⟩⟩)
theorem ren_qi [Val] (n : Nat) {v : Int} (h : vI (.ofNat n) = v) : ren ren00 (qi n) = .int .i64 v := congrArg (Value.int .i64) h
theorem ren_qu [Val] (n : Nat) {v : Int} (h : vI (.ofNat n) = v) : ren ren00 (qu n) = .int .u32 v := congrArg (Value.int .u32) h
/-- code, but for what is behind its second part -/
def cut2 (c r : Code) : Code := .seq (cl c) (.seq (cl (cr c)) r)
theorem cut2_of {P : Program} {c r : Code} {Q : Exit → Act → World → Prop} {a : Act} {w : World} (hr : cr (cr c) = r) (hs : (isSeq c && isSeq (cr c)) = true) (h : (cut2 c r).wp P Q a w) : c.wp P Q a w := by
  subst hr
  unfold cut2 at h
  cases c with
  | seq x y => cases y with
    | seq y z => exact h
    | _ => cases hs
  | _ => cases hs
end Vw
theorem tc_is : Vw.tcFn = Tryz.f3 := by
  have h := Tryz.func3
  unfold Vw.tcFn
  rw [getElem!_pos Tryz.prog.funcs _ Vw.ftc]
  rw [Array.getElem?_eq_getElem Vw.ftc] at h
  exact Option.some.inj h

set_option maxRecDepth 100000 in
set_option maxHeartbeats 8000000 in
theorem tcp_in (w : World) (hm : mlIs w) [Vw.Val] (n : Nat) (hn : n ≤ 18446744073709551615) {v p k : Int} (hv : Vw.vI (.ofNat 18446744077711212544) = v) (hp : Vw.vI (.ofNat 18446744073709551617) = p) (hk : Vw.vI (.ofNat 18446744073709551618) = k)
    (run : ∀ {a : Act} {w1 : World} {R : Ending → World → Prop}, Vw.TopSt Tryz.prog Vw.tcLive 157 w (Vw.ofL [Vw.qi n, Vw.qi 18446744077711212544, Vw.qi 18446744073709551617, Vw.qi 18446744073709551618, Vw.qt false, Vw.qt false, Vw.qv, Vw.qv, Vw.qv, Vw.qv, Vw.qv, Vw.qv, Vw.qv, Vw.qv, Vw.qv, Vw.qv, Vw.qv, Vw.qv, Vw.qv, Vw.qv, Vw.qv]) (Vw.heapOf []) ([] : List Vw.LB).length a w1 → (∀ w', Below w.heap.size w w' → R (.returned (.bool true)) w') → Vw.tcC.wp Tryz.prog (bodyPost Tryz.prog Vw.tcFn R) a w1) :
    Calls Tryz.prog 3 #[.int .i64 n, .int .i64 v, .int .i64 p, .int .i64 k] w (FullPost w) := by
  rw [tc_is] at run
  go_enter Tryz.func3, Tryz.ntmps3
  refine Vw.cut2_of (r := Vw.tcC) (by kernel_rfl) rfl ?_
  generalize Vw.tcC = r at run ⊢
  simp only [Vw.cut2, Vw.cl, Vw.cr]
  go_wp2_with fail
  refine (awakeT_any w hm).mono ?_
  rintro e w1 ⟨rfl, q1⟩
  go_wp2_with fail
  refine run ?_ (fun w' hb => ⟨rfl, hb⟩)
  refine Vw.TopSt.begin rfl q1 rfl rfl (Vw.zip_ok ?_)
  intro x hx
  simp only [Vw.tcLive, List.zip_cons_cons, List.zip_nil_right, List.mem_cons, List.not_mem_nil, or_false] at hx
  rcases hx with rfl | hx
  · refine ⟨trivial, ?_⟩
    rw [Vw.ren_qi _ (Vw.vI_nat hn)]
    rfl
  rcases hx with rfl | hx
  · refine ⟨trivial, ?_⟩
    rw [Vw.ren_qi _ hv]
    rfl
  rcases hx with rfl | hx
  · refine ⟨trivial, ?_⟩
    rw [Vw.ren_qi _ hp]
    rfl
  rcases hx with rfl | hx
  · refine ⟨trivial, ?_⟩
    rw [Vw.ren_qi _ hk]
    rfl
  rcases hx with rfl | rfl | rfl | rfl | rfl | rfl | rfl | rfl | rfl | rfl | rfl | rfl | rfl | rfl | rfl | rfl | rfl <;> first | exact ⟨trivial, rfl⟩ | exact ⟨Vw.wf_undef 0 Vw.ren00, congrArg some (Vw.ren_undef Vw.ren00).symm⟩
end Go.Proofs.YtccbdaffjkdpgaaGreatDoor
