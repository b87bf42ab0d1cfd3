/-
  The statement TopNames: whatever the input it answers true; each argument reads as it did. No condition.
-/
import Derived.Test.YtcdacfnfiplidaaGreatDoorRows
import Derived.Test.YtcdacfnfiplidaaGreatDoorFrame
import Derived.Test.YtcdacfnfiplidaaGreatDoorHead
import Derived.Test.YtcdacfnfiplidaaGreatDoorTie
import Derived.Test.YtcdacfnfiplidaaGreatDoorCards
import Derived.Test.YtcdacfnfiplidaaGreatDoorKF7
import Derived.SevenTiedAt
import Derived.Test.YtcdacfnfiplidaaGreatDoorTn8
namespace Go.Proofs.YtcdacfnfiplidaaGreatDoor.topNames
open Go.ChangeShapes Go.WideShapes Go.ChangeAt Go.RowKit
open Go.ChangeMaps (open_string shut_string)

set_option maxRecDepth 100000 in
set_option maxHeartbeats 16000000 in
theorem lifted (os : Os) (started : os.Started) (H : Type) (enc : TypeId × Value → H) :
    ReturnsInHanded {} Tryz.checked os 3 .any (fun w args => (Rows.topNamesSpec.pre enc Tryz.prog Tryz.f3 [] false w args ∧ laidMetH Tryz.prog laid7 w) ∧ sizedMet enc Tryz.prog Tryz.f3 (OpenSpec.ofChange Rows.topNamesSpec) false w args)
      (Rows.topNamesSpec.post enc Tryz.prog Tryz.f3 false true false false) := by
  refine returns_listed_shaped (C := Tryz.checked) (X := fun w => laidMetH Tryz.prog laid7 w) (fun _ _ hh h => h.of_heap hh) frameOwn started (by as_aux_lemma => kernel_rfl) Tryz.func3
    (ChangeSpec.witness_shaped (enc := enc) (C := Tryz.checked) (os := os) (X := fun w _ => laidMetH Tryz.prog laid7 w) false (World.laidAll Tryz.prog os laid7) #[] 8 (World.laidAll_os _ _ _) (laid7_shape os) (by as_aux_lemma => kernel_rfl) (by as_aux_lemma => kernel_rfl) (by as_aux_lemma => kernel_rfl) (laid7_met os _)) ?_
  intro W base args ds gs before hval0 hW hL hsh
  have hm := ml_of_shape hsh
  have hval : ∀ (j : Nat) t v, Tryz.f3.params[j]? = some t → args[j]? = some v → Value.okWide Tryz.prog W .any base t v := hval0
  have hW' := hW
  obtain ⟨p, q, hA0, hV, rfl, hfz, hnd⟩ := hW
  have hA : DataW.TrodAll enc Tryz.prog W 0 (fun _ => true) true Tryz.f3.params.toList args.toList ds p := hA0
  rw [Tryz.params3] at hA hval
  obtain ⟨hargs, rfl, rfl⟩ := trodAll_nil hA
  obtain rfl : args = #[] := by cases args; simp_all
  obtain ⟨rfl, rfl⟩ := trodVars_none hV
  refine (topNames_any W hm).mono fun e W' ⟨he, bel⟩ => ?_
  subst he
  exact ⟨_, rfl, _, _, _, [], _, [], hW', trodAll_mk1 (shut_bool Tryz.underlying4 _), trodAll_mk0, rfl, bel.frame _, fun h => by cases h⟩

set_option maxHeartbeats 8000000 in
theorem closed : joinedFacts Tryz.checked.prog 3 Tryz.f3 Rows.topNamesSpec Rows.topNamesRow = true := by
  have hl : (Rows.topNamesRow.lifted == Tryz.checked.prog.liftsFinal) = true := head_lifted
  have hm : (Tryz.checked.prog.make == some Rows.topNamesRow.make) = true := head_make
  unfold joinedFacts
  repeat' (with_reducible refine and_mk ?_ ?_)
  all_goals first | (with_reducible exact hl) | (with_reducible exact hm) | (with_reducible exact head_enter) | (as_aux_lemma => kernel_rfl)

set_option maxHeartbeats 8000000 in
theorem proved : Rows.TopNamesSaid :=
  OpenClaim.holds_of_wide 3 Tryz.f3 rfl rfl rfl rfl rfl rfl rfl ⟨rfl, rfl, rfl, rfl, rfl⟩ rfl rfl rfl rfl rfl (by as_aux_lemma => kernel_rfl) Tryz.func3 closed
    (of_decide_eq_true (by as_aux_lemma => kernel_rfl)) (by unfold Func.isWrapper; rw [if_neg (of_decide_eq_false (by as_aux_lemma => kernel_rfl))]; exact ⟨rfl, rfl⟩)
    (fun os started H enc _ => lifted os started H enc)
set_option maxHeartbeats 16000000 in
theorem nobody : Tryz.checked.prog.funcs.toList.any Func.goes = false := by as_aux_lemma => kernel_rfl
theorem goes_not {c : OpenClaim} (h : c.start = .entering) : false = c.goesBy Tryz.checked.prog := by
  unfold OpenClaim.goesBy Program.goesAt
  rw [goesFrom_none _ nobody, h]
  rfl

set_option maxHeartbeats 16000000 in
theorem carded : Rows.TopNamesCardSaid :=
  Claim7.holds_tied_plain_at .later [] [.data, .data, .data, .data, .sentinel, .sentinel, .pinned] true (true, "ce324d157e8a93ccec403568ae3419ecf402300ba014110127ccc9f1bcbfec2d") true
    proved (fun _ h => by cases h) (by as_aux_lemma => kernel_rfl) (fun _ h => by cases h) topNames_row_tie rfl ⟨rfl, rfl⟩ (by as_aux_lemma => kernel_rfl) rfl
    (fun f fn hf hfn => by
      obtain rfl : f = 3 := Option.some.inj ((show Tryz.prog.funcNamed "gatehouse/gatehousetop.TopNames" = some 3 by as_aux_lemma => kernel_rfl).symm.trans hf) |>.symm
      obtain rfl : fn = Tryz.f3 := (Option.some.inj (Tryz.func3.symm.trans hfn)).symm
      refine ⟨by as_aux_lemma => kernel_rfl, fun j t ht => ?_⟩
      have hm : t ∈ Tryz.f3.params.toList := List.mem_iff_getElem?.2 ⟨j, by simp at ht⟩
      have key : (Tryz.f3.params.toList.all fun t => !Tryz.prog.wantsStandIn t) = true := by as_aux_lemma => kernel_rfl
      have h2 := List.all_eq_true.1 key t hm
      rw [Bool.not_eq_true'] at h2
      exact h2)
    (goes_not rfl)
#print axioms carded
end Go.Proofs.YtcdacfnfiplidaaGreatDoor.topNames
