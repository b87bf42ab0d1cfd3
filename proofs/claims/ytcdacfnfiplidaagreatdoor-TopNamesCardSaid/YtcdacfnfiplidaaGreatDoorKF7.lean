/-
  The frame of the row that lists seven variables; no goroutine is started.
-/
import Derived.Test.YtcdacfnfiplidaaGreatDoorRows
import Derived.Test.YtcdacfnfiplidaaGreatDoorFrame
import Derived.Test.YtcdacfnfiplidaaGreatDoorHead
import GoSem.ClaimGoes
import Derived.HandedShaped
import Derived.Shelf.Vars
import Derived.Lay
import Derived.MakeChecks
import Derived.Stop.Joined
import Derived.Test.YtcdacfnfiplidaaGreatDoorTs2
namespace Go.Proofs.YtcdacfnfiplidaaGreatDoor
open Go.ChangeShapes Go.WideShapes Go.ChangeAt Go.RowKit

def laid7 : List (String × DataW Unit) := [("math/bits.deBruijn32tab", Rows.laid_math_bits_deBruijn32tab), ("math/bits.deBruijn64tab", Rows.laid_math_bits_deBruijn64tab), ("internal/strconv.uint64pow10", Rows.laid_internal_strconv_uint64pow10), ("unicode/utf8.acceptRanges", Rows.laid_unicode_utf8_acceptRanges), ("strconv.ErrRange", Rows.laid_strconv_ErrRange), ("strconv.ErrSyntax", Rows.laid_strconv_ErrSyntax), ("unicode/utf8.first", Rows.laid_unicode_utf8_first)]

set_option maxHeartbeats 16000000 in
theorem laid7_met (os : Os) (args : Array Value) : laidMetH Tryz.prog laid7 ((World.laidAll Tryz.prog os laid7).forCall (fun _ _ => 0) ⟨#[], args, []⟩).memory := by
  rw [MakeChecks.laidMetH_plain _ _ _ (by as_aux_lemma => kernel_rfl)]
  exact laidMet_laidAll _ (by as_aux_lemma => kernel_rfl) (by as_aux_lemma => kernel_rfl)
set_option maxHeartbeats 16000000 in
theorem laid7_shape (os : Os) : (World.laidAll Tryz.prog os laid7).Shaped Tryz.prog := World.shaped_of_ZipB (by as_aux_lemma => kernel_rfl) (by as_aux_lemma => kernel_rfl)
set_option maxHeartbeats 16000000 in
theorem ml_of_shape {W : World} (h : W.ShapedOpen Tryz.prog) : mlIs W :=
  cell_of_shapedOpen_int (P := Tryz.prog) (g := 1) (t := 3) (zero := #[.int .i64 0]) h (of_decide_eq_true (by as_aux_lemma => kernel_rfl)) (by as_aux_lemma => kernel_rfl) rfl (by as_aux_lemma => kernel_rfl) (by as_aux_lemma => kernel_rfl) Tryz.underlying3
/-- Where no function of the whole program starts a goroutine, no call does. -/
theorem goes_none (P : Program) (h : P.funcs.toList.any Func.goes = false) (f : FuncId) : P.goes f = false := by
  have key : ∀ g : FuncId, ((P.funcs[g]?).any Func.goes) = false := by
    intro g
    rcases hg : P.funcs[g]? with _ | fn
    · rfl
    · show fn.goes = false
      rw [Bool.eq_false_iff]
      intro hgo
      have hm : fn ∈ P.funcs.toList := List.mem_iff_getElem?.2 ⟨g, by rw [Array.getElem?_toList]; exact hg⟩
      have := List.any_eq_true.2 ⟨fn, hm, hgo⟩
      rw [h] at this
      cases this
  have h2 : P.funcs.any Func.goes = false := by rw [← Array.any_toList]; exact h
  unfold Program.goes
  simp only [key, h2, Bool.and_false, Bool.or_false]
  simp
theorem goesFrom_none (P : Program) (h : P.funcs.toList.any Func.goes = false) (s : String) : P.goesFrom s = false := by
  unfold Program.goesFrom
  rcases P.funcNamed s with _ | f
  · rfl
  · exact goes_none P h f

section
variable {H : Type} {enc : TypeId × Value → H}
/-- The wrap for a row that lists tables, the world's shape kept for the walk. -/
theorem returns_listed_shaped {a : Assume} {C : Checked} {os : Os} {f : FuncId} {fn : Func} {s : ChangeSpec} {conds : List PathCond} {apart fresh handsOn again : Bool} {X : World → Prop}
    (hX : ∀ (w w' : World), w.heap = w'.heap → X w → X w')
    (own : ownKnob C.prog.godebug = none) (started : os.Started) (noInit : C.prog.inits.idxOf? f = none) (hfn : C.prog.funcs[f]? = some fn)
    (witness : ∃ (w : World) (tape : Tape) (i : Input), w.os = os ∧ (w.forCall tape i).Shaped C.prog ∧ i.vars = [] ∧ Input.okWide C.prog (w.forCall tape i) .any w.heap.size f i ∧
      ((s.pre enc C.prog fn conds apart (w.forCall tape i).memory i.args ∧ X (w.forCall tape i).memory) ∧ sizedMet enc C.prog fn (OpenSpec.ofChange s) apart (w.forCall tape i).memory i.args) ∧ a.holds C.prog (lone (Frame.enter C.prog f i.args .normal) [] (w.forCall tape i)))
    (contract : ∀ (W : World) (base : Nat) (args : Array Value) (ds gs : List (DataW H)) (before : List MemPlace),
      (∀ (j : Nat) t v, fn.params[j]? = some t → args[j]? = some v → Value.okWide C.prog W .any base t v) →
      DataW.Whole enc C.prog fn.params.toList s.vars apart W args.toList ds gs before → X W → W.ShapedOpen C.prog →
      Calls C.prog f args W fun e W' => ∃ v, e = .returned v ∧ s.post enc C.prog fn apart fresh handsOn again W args v W') :
    ReturnsInHanded a C os f .any (fun w args => (s.pre enc C.prog fn conds apart w args ∧ X w) ∧ sizedMet enc C.prog fn (OpenSpec.ofChange s) apart w args) (s.post enc C.prog fn apart fresh handsOn again) := by
  refine returnsInHanded_of_calls own started noInit witness ?_
  intro w tape i _ hsh _ hok hpre _
  obtain ⟨_, _, _, g, hg, _, _, _, _, hval⟩ := hok
  obtain rfl : g = fn := Option.some.inj (hg.symm.trans hfn)
  obtain ⟨⟨⟨ds, gs, before, hw, _⟩, hx⟩, _⟩ := hpre
  refine (contract (w.forCall tape i) w.heap.size i.args ds gs before hval (DataW.Whole.of_heap (w' := w.forCall tape i) (by rfl) hw) (hX _ _ (by rfl) hx) hsh).mono fun e W' ⟨v, he, hp⟩ => ?_
  subst he
  exact ChangeSpec.post_blind hp
end
end Go.Proofs.YtcdacfnfiplidaaGreatDoor
