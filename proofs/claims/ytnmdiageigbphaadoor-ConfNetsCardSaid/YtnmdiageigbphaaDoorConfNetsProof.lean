/-
  The statement ConfNets: whatever the input it answers true; each argument reads as it did. No condition.
-/
import Derived.Test.YtnmdiageigbphaaDoorRows
import Derived.Test.YtnmdiageigbphaaDoorFrame
import Derived.Test.YtnmdiageigbphaaDoorHead
import Derived.Test.YtnmdiageigbphaaDoorTie
import Derived.Test.YtnmdiageigbphaaDoorCards
import Derived.Test.YtnmdiageigbphaaDoorKF
import Derived.SevenTiedAt
import Derived.Test.YtnmdiageigbphaaDoorConfNets
import Derived.Test.YtnmdiageigbphaaDoorKF5
import Derived.Test.YtnmdiageigbphaaDoorKFo
namespace Go.Proofs.YtnmdiageigbphaaDoor.confNets
open Go.ChangeShapes Go.WideShapes Go.ChangeAt Go.RowKit
open Go.ChangeMaps (open_string shut_string)

set_option maxRecDepth 100000 in
theorem lifted (os : Os) (started : os.Started) (H : Type) (enc : TypeId × Value → H) :
    ReturnsInHanded {} Tryd.checked os 7 .any (fun w args => (Rows.confNetsSpec.pre enc Tryd.prog Tryd.f7 [] false w args ∧ laidMetH Tryd.prog laid5 w) ∧ sizedMet enc Tryd.prog Tryd.f7 (OpenSpec.ofChange Rows.confNetsSpec) false w args)
      (Rows.confNetsSpec.post enc Tryd.prog Tryd.f7 false true false false) := by
  refine returns_listed_shaped (C := Tryd.checked) (X := fun w => laidMetH Tryd.prog laid5 w) (fun _ _ hh h => h.of_heap hh) frameOwn started (by as_aux_lemma => kernel_rfl) Tryd.func7
    (ChangeSpec.witness_shaped (enc := enc) (C := Tryd.checked) (os := os) (X := fun w _ => laidMetH Tryd.prog laid5 w) false (World.laidAll Tryd.prog os laid5) #[.agg #[.int .u8 0, .int .u8 0, .int .u8 0, .int .u8 0], .int .i64 0] 8 (World.laidAll_os _ _ _) (laid5_shape os) (by as_aux_lemma => kernel_rfl) (by as_aux_lemma => kernel_rfl) (by as_aux_lemma => kernel_rfl) (laid5_met os _)) ?_
  intro W base args ds gs before hval0 hW hL hsh
  have hm := ml_of_shape hsh
  have hval : ∀ (j : Nat) t v, Tryd.f7.params[j]? = some t → args[j]? = some v → Value.okWide Tryd.prog W .any base t v := hval0
  have hW' := hW
  obtain ⟨p, q, hA0, hV, rfl, hfz, hnd⟩ := hW
  have hA : DataW.TrodAll enc Tryd.prog W 0 (fun _ => true) true Tryd.f7.params.toList args.toList ds p := hA0
  rw [Tryd.params7] at hA hval
  obtain ⟨v0, vs0, d0, ds0, p0, q0, hargs, rfl, rfl, h0, r0⟩ := trodAll_cons hA
  obtain ⟨v1, vs1, d1, ds1, p1, q1, rfl, rfl, rfl, h1, r1⟩ := trodAll_cons r0
  obtain ⟨rfl, rfl, rfl⟩ := trodAll_nil r1
  obtain rfl : args = #[v0, v1] := by cases args; simp_all
  obtain ⟨rfl, rfl⟩ := trodVars_none hV
  have k0 := h0
  have lt0 : ∀ x ∈ p0, x.block < W.heap.size := by obtain ⟨m, hm⟩ := k0; exact DataW.trod_lt m _ _ _ hm
  obtain ⟨x0, rfl, w0⟩ := open_addr (hval 0 26 v0 rfl rfl) h0
  have k1 := h1
  have lt1 : ∀ x ∈ p1, x.block < W.heap.size := by obtain ⟨m, hm⟩ := k1; exact DataW.trod_lt m _ _ _ hm
  obtain ⟨a1, rfl, _, _, w1⟩ := open_int Tryd.underlying3 (hval 1 3 v1 rfl rfl) h1
  refine (confNets_any W hm (pow_of_laid5 hL) x0 w0 a1 w1).mono fun e W' ⟨he, bel⟩ => ?_
  subst he
  exact ⟨_, rfl, _, _, _, [], _, [], hW', trodAll_mk1 (shut_bool Tryd.underlying4 _), (trodAll_cons_mk (Below.trod frameLaid (by as_aux_lemma => kernel_rfl) (of_decide_eq_true (by as_aux_lemma => kernel_rfl)) k0 bel lt0) (trodAll_cons_mk (Below.trod frameLaid (by as_aux_lemma => kernel_rfl) (of_decide_eq_true (by as_aux_lemma => kernel_rfl)) k1 bel lt1) trodAll_mk0)), rfl, bel.frame _, fun h => by cases h⟩

set_option maxHeartbeats 8000000 in
theorem closed : joinedFacts Tryd.checked.prog 7 Tryd.f7 Rows.confNetsSpec Rows.confNetsRow = true := by
  have hl : (Rows.confNetsRow.lifted == Tryd.checked.prog.liftsFinal) = true := head_lifted
  have hm : (Tryd.checked.prog.make == some Rows.confNetsRow.make) = true := head_make
  unfold joinedFacts
  repeat' (with_reducible refine and_mk ?_ ?_)
  all_goals first | (with_reducible exact hl) | (with_reducible exact hm) | (with_reducible exact head_enter) | (as_aux_lemma => kernel_rfl)

set_option maxHeartbeats 8000000 in
theorem proved : Rows.ConfNetsSaid :=
  OpenClaim.holds_of_wide 7 Tryd.f7 rfl rfl rfl rfl rfl rfl rfl ⟨rfl, rfl, rfl, rfl, rfl⟩ rfl rfl rfl rfl rfl (by as_aux_lemma => kernel_rfl) Tryd.func7 closed
    (of_decide_eq_true (by as_aux_lemma => kernel_rfl)) (by unfold Func.isWrapper; rw [if_neg (of_decide_eq_false (by as_aux_lemma => kernel_rfl))]; exact ⟨rfl, rfl⟩)
    (fun os started H enc _ => lifted os started H enc)
/-- The tied card. -/
theorem carded : Rows.ConfNetsCardSaid :=
  Claim7.holds_tied_plain_at .later [] [.data, .data, .data, .data, .pinned] true (true, "3fc5c7376e1bc6e90967f6ffa3ef63b0375e4ca9d5f2d0cc8ecc7a7c84467328") true
    proved (fun _ h => by cases h) (by as_aux_lemma => kernel_rfl) (fun _ h => by cases h) confNets_row_tie rfl ⟨rfl, rfl⟩ (by as_aux_lemma => kernel_rfl) rfl
    (fun f fn hf hfn => by
      obtain rfl : f = 7 := Option.some.inj ((show Tryd.prog.funcNamed "gatehouse/gatehouselaw10.ConfNets" = some 7 by as_aux_lemma => kernel_rfl).symm.trans hf) |>.symm
      obtain rfl : fn = Tryd.f7 := (Option.some.inj (Tryd.func7.symm.trans hfn)).symm
      refine ⟨by as_aux_lemma => kernel_rfl, fun j t ht => ?_⟩
      have hm : t ∈ Tryd.f7.params.toList := List.mem_iff_getElem?.2 ⟨j, by simpa using ht⟩
      have key : (Tryd.f7.params.toList.all fun t => !Tryd.prog.wantsStandIn t) = true := by as_aux_lemma => kernel_rfl
      have h2 := List.all_eq_true.1 key t hm
      rw [Bool.not_eq_true'] at h2
      exact h2)
    (by as_aux_lemma => kernel_rfl)
#print axioms carded
end Go.Proofs.YtnmdiageigbphaaDoor.confNets
