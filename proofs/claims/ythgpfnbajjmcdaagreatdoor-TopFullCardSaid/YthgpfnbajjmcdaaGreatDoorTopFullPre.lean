/-
  The statement TopFull, given its walk: what the row and its card ask beside it.
-/
import Derived.Test.YthgpfnbajjmcdaaGreatDoorRows
import Derived.Test.YthgpfnbajjmcdaaGreatDoorFrameG
import Derived.Test.YthgpfnbajjmcdaaGreatDoorHead
import Derived.Test.YthgpfnbajjmcdaaGreatDoorTy
import Derived.Test.YthgpfnbajjmcdaaGreatDoorCards
import Derived.Test.YthgpfnbajjmcdaaGreatDoorKF8
import Derived.Test.YthgpfnbajjmcdaaGreatDoorCl
import Derived.SevenTiedAt
namespace Go.Proofs.YthgpfnbajjmcdaaGreatDoor.topFull
open Go.ChangeShapes Go.WideShapes Go.ChangeAt Go.RowKit
open Go.ChangeMaps (open_string shut_string)

/-- what the walk is to show -/
def Walk : Prop := ∀ (w : World), mlIs w → ∀ (a : Int), (Lit.int .i64 a).wf = true → Calls Tryz.prog 3 #[.int .i64 a] w (fun e w' => e = .returned (.bool true) ∧ Below w.heap.size w w')
set_option maxRecDepth 100000 in
set_option maxHeartbeats 16000000 in
theorem lifted (walk : Walk) (os : Os) (started : os.Started) (H : Type) (enc : TypeId × Value → H) :
    ReturnsInHanded {} Tryz.checked os 3 .any (fun w args => (Rows.topFullSpec.pre enc Tryz.prog Tryz.f3 [] false w args ∧ laidMetH Tryz.prog laid7 w) ∧ sizedMet enc Tryz.prog Tryz.f3 (OpenSpec.ofChange Rows.topFullSpec) false w args)
      (Rows.topFullSpec.post enc Tryz.prog Tryz.f3 false true false false) := by
  refine returns_listed_shaped (C := Tryz.checked) (X := fun w => laidMetH Tryz.prog laid7 w) (fun _ _ hh h => h.of_heap hh) frameOwn started (by as_aux_lemma => kernel_rfl) Tryz.func3
    (ChangeSpec.witness_shaped (enc := enc) (C := Tryz.checked) (os := os) (X := fun w _ => laidMetH Tryz.prog laid7 w) false (World.laidAll Tryz.prog os laid7) #[.int .i64 0] 8 (World.laidAll_os _ _ _) (laid7_shape os) (by rw [laidW_eq]; as_aux_lemma => kernel_rfl) (by rw [laidW_eq]; as_aux_lemma => kernel_rfl) (by rw [laidW_eq]; as_aux_lemma => kernel_rfl) (laid7_met os _)) ?_
  intro W base args ds gs before hval0 hW hL hsh
  have hm := ml_of_shape hsh
  have hval : ∀ (j : Nat) t v, Tryz.f3.params[j]? = some t → args[j]? = some v → Value.okWide Tryz.prog W .any base t v := hval0
  have hW' := hW
  obtain ⟨p, q, hA0, hV, rfl, hfz, hnd⟩ := hW
  have hA : DataW.TrodAll enc Tryz.prog W 0 (fun _ => true) true Tryz.f3.params.toList args.toList ds p := hA0
  rw [Tryz.params3] at hA hval
  obtain ⟨v0, vs0, d0, ds0, p0, q0, hargs, rfl, rfl, h0, r0⟩ := trodAll_cons hA
  obtain ⟨rfl, rfl, rfl⟩ := trodAll_nil r0
  obtain rfl : args = #[v0] := by cases args; simp_all
  obtain ⟨rfl, rfl⟩ := trodVars_none hV
  have k0 := h0
  have lt0 : ∀ x ∈ p0, x.block < W.heap.size := by obtain ⟨m, hm⟩ := k0; exact DataW.trod_lt m _ _ _ hm
  obtain ⟨a0, rfl, _, _, w0⟩ := open_int Tryz.underlying3 (hval 0 3 v0 rfl rfl) h0
  refine (walk W hm a0 w0).mono fun e W' ⟨he, bel⟩ => ?_
  subst he
  exact ⟨_, rfl, _, _, _, [], _, [], hW', trodAll_mk1 (shut_bool Tryz.underlying4 _), (trodAll_cons_mk (Below.trod frameLaid (by as_aux_lemma => kernel_rfl) (of_decide_eq_true (by as_aux_lemma => kernel_rfl)) k0 bel lt0) trodAll_mk0), rfl, bel.frame _, fun h => by cases h⟩

set_option maxHeartbeats 8000000 in
theorem closed : joinedFacts Tryz.checked.prog 3 Tryz.f3 Rows.topFullSpec Rows.topFullRow = true := by
  have hl : (Rows.topFullRow.lifted == Tryz.checked.prog.liftsFinal) = true := head_lifted
  have hm : (Tryz.checked.prog.make == some Rows.topFullRow.make) = true := head_make
  have hf : laidOutB Tryz.checked.prog = true := frameLaid
  unfold joinedFacts
  repeat' (with_reducible refine and_mk ?_ ?_)
  all_goals first | (with_reducible exact hl) | (with_reducible exact hm) | (with_reducible exact head_enter) | (with_reducible exact hf) | (with_reducible exact cl_inPlace) | (with_reducible exact cl_unfollowed) | (with_reducible exact cl_recurses) | (with_reducible exact cl_named) | (as_aux_lemma => kernel_rfl)

set_option maxHeartbeats 8000000 in
theorem proved (walk : Walk) : Rows.TopFullSaid :=
  OpenClaim.holds_of_wide 3 Tryz.f3 rfl rfl rfl rfl rfl rfl rfl ⟨rfl, rfl, rfl, rfl, rfl⟩ rfl rfl rfl rfl rfl (by as_aux_lemma => kernel_rfl) Tryz.func3 closed
    (of_decide_eq_true (by as_aux_lemma => kernel_rfl)) (by unfold Func.isWrapper; rw [if_neg (of_decide_eq_false (by as_aux_lemma => kernel_rfl))]; exact ⟨rfl, rfl⟩)
    (fun os started H enc _ => lifted walk os started H enc)
set_option maxHeartbeats 16000000 in
theorem nobody : Tryz.checked.prog.funcs.toList.any Func.goes = false := by as_aux_lemma => kernel_rfl
theorem goes_not {c : OpenClaim} (h : c.start = .entering) : false = c.goesBy Tryz.checked.prog := by
  unfold OpenClaim.goesBy Program.goesAt
  rw [goesFrom_none _ nobody, h]
  rfl

set_option maxHeartbeats 16000000 in
theorem carded_of (walk : Walk) : Rows.TopFullCardSaid :=
  Claim7.holds_tied_plain_at .later [] [.pinned, .data, .sentinel, .sentinel, .data, .data, .data] true (true, "fc8501240cd1b51a8148071b3b75f79c34144c1edc4a3084692933b1e5438970") true
    (proved walk) (fun _ h => by cases h) (by as_aux_lemma => kernel_rfl) (fun _ h => by cases h) tie_row rfl ⟨rfl, rfl⟩ (by as_aux_lemma => kernel_rfl) rfl
    (fun f fn hf hfn => by
      obtain rfl : f = 3 := Option.some.inj ((show Tryz.prog.funcNamed "gatehouse/gatehousetop.TopFull" = some 3 by as_aux_lemma => kernel_rfl).symm.trans hf) |>.symm
      obtain rfl : fn = Tryz.f3 := (Option.some.inj (Tryz.func3.symm.trans hfn)).symm
      refine ⟨by as_aux_lemma => kernel_rfl, fun j t ht => ?_⟩
      have hm : t ∈ Tryz.f3.params.toList := List.mem_iff_getElem?.2 ⟨j, by simpa using ht⟩
      have key : (Tryz.f3.params.toList.all fun t => !Tryz.prog.wantsStandIn t) = true := by as_aux_lemma => kernel_rfl
      have h2 := List.all_eq_true.1 key t hm
      rw [Bool.not_eq_true'] at h2
      exact h2)
    (goes_not rfl)
end Go.Proofs.YthgpfnbajjmcdaaGreatDoor.topFull
