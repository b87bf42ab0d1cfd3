/-
  gatehousetop.TopFull: its first question by hand; the run of the rest is given.
-/
import Derived.Test.YthgpfnbajjmcdaaGreatDoorTf1
import Derived.Test.YthgpfnbajjmcdaaGreatDoorTn8
namespace Go.Proofs.YthgpfnbajjmcdaaGreatDoor
open Go.RowKit

def FullPost (w : World) (e : Ending) (w' : World) : Prop := e = .returned (.bool true) ∧ Below w.heap.size w w'

set_option maxHeartbeats 4000000 in
theorem full_out (w : World) (hm : mlIs w) (a : Int) (h : a < 0 ∨ 2 < a) : Calls Tryz.prog 3 #[.int .i64 a] w (FullPost w) := by
  go_enter Tryz.func3, Tryz.ntmps3
  go_wp2_with fail
  refine (awakeT_any w hm).mono ?_
  rintro e w1 ⟨rfl, q1⟩
  have hb : (decide (a < 0) = true) ∨ (decide (a < 0) = false ∧ decide (2 < a) = true) := by
    rcases h with h | h
    · exact .inl (decide_eq_true h)
    · exact .inr ⟨decide_eq_false (by omega), decide_eq_true h⟩
  clear h
  rcases hb with d1 | ⟨d1, d2⟩
  · go_wp2_with fail
    go_ret
    exact ⟨rfl, q1⟩
  · go_wp2_with fail
    go_ret
    exact ⟨rfl, q1⟩

namespace Vw
theorem zip_ok {tm : Array Value} {live : List Nat} {fl : List Value} (h : ∀ p ∈ live.zip fl, wf 0 ren00 p.2 ∧ tm[p.1]? = some (ren ren00 p.2)) (t i : Nat) (v : Value) (hi : idxOf t live 0 = some i) (hv : fl[i]? = some v) : wf 0 ren00 v ∧ tm[t]? = some (ren ren00 v) := by
  obtain ⟨_, hit⟩ := idxOf_some t live 0 i hi
  rw [Nat.sub_zero] at hit
  exact h (t, v) (List.mem_iff_getElem?.2 ⟨i, by rw [List.getElem?_zip_eq_some]; exact ⟨hit, hv⟩⟩)
/-- code, but for what is behind its second part -/
def cut2 (c r : Code) : Code := .seq (cl c) (.seq (cl (cr c)) r)
theorem cut2_of {P : Program} {c r : Code} {Q : Exit → Act → World → Prop} {a : Act} {w : World} (hr : cr (cr c) = r) (hs : (isSeq c && isSeq (cr c)) = true) (h : (cut2 c r).wp P Q a w) : c.wp P Q a w := by
  subst hr
  unfold cut2 at h
  cases c with
  | seq x y => cases y with
    | seq y z => exact h
    | _ => cases hs
  | _ => cases hs
end Vw
theorem fu_is : Vw.fuF = Tryz.f3 := by
  have h := Tryz.func3
  unfold Vw.fuF
  rw [getElem!_pos Tryz.prog.funcs _ (Vw.flt _ rfl)]
  rw [Array.getElem?_eq_getElem (Vw.flt _ rfl)] at h
  exact Option.some.inj h

set_option maxHeartbeats 4000000 in
theorem full_in (w : World) (hm : mlIs w) (n : Nat) (hn : n ≤ 18446744073709551615) (run : ∀ {a : Act} {w1 : World} {R : Ending → World → Prop}, Vw.TopSt Tryz.prog Vw.fuLive 113 w (Vw.ofL [Vw.qi n, Vw.qt false, Vw.qt false, Vw.qv, Vw.qv, Vw.qv, Vw.qv, Vw.qv, Vw.qv, Vw.qv, Vw.qv, Vw.qv, Vw.qv, Vw.qv, Vw.qv, Vw.qv, Vw.qv, Vw.qv, Vw.qv]) (Vw.heapOf []) ([] : List Vw.LB).length a w1 → (∀ w', Below w.heap.size w w' → R (.returned (.bool true)) w') → (Vw.cr (Vw.cr Vw.fuB)).wp Tryz.prog (bodyPost Tryz.prog Vw.fuF R) a w1) : Calls Tryz.prog 3 #[.int .i64 n] w (FullPost w) := by
  rw [fu_is] at run
  go_enter Tryz.func3, Tryz.ntmps3
  refine Vw.cut2_of (r := Vw.cr (Vw.cr Vw.fuB)) (by kernel_rfl) rfl ?_
  generalize Vw.cr (Vw.cr Vw.fuB) = r at run ⊢
  simp only [Vw.cut2, Vw.cl, Vw.cr]
  go_wp2_with fail
  refine (awakeT_any w hm).mono ?_
  rintro e w1 ⟨rfl, q1⟩
  go_wp2_with fail
  refine run ?_ (fun w' hb => ⟨rfl, hb⟩)
  refine Vw.TopSt.begin rfl q1 rfl rfl (Vw.zip_ok ?_)
  intro p hp
  simp only [Vw.fuLive, List.zip_cons_cons, List.zip_nil_right, List.mem_cons, List.not_mem_nil, or_false] at hp
  rcases hp with rfl | hp
  · refine ⟨trivial, ?_⟩
    rw [show Vw.ren Vw.ren00 (Vw.qi n) = Value.int .i64 n from congrArg (fun m => Value.int .i64 (Int.ofNat m)) (Vw.vN_plain hn)]
    rfl
  rcases hp with rfl | rfl | rfl | rfl | rfl | rfl | rfl | rfl | rfl | rfl | rfl | rfl | rfl | rfl | rfl | rfl | rfl | rfl <;> first | exact ⟨trivial, rfl⟩ | exact ⟨Vw.wf_undef 0 Vw.ren00, congrArg some (Vw.ren_undef Vw.ren00).symm⟩
end Go.Proofs.YthgpfnbajjmcdaaGreatDoor
