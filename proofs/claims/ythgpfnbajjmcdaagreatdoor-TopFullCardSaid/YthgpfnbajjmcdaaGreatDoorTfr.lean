/-
  gatehousetop.TopFull: its run from behind the first question on: true is given back.
-/
import Derived.Test.YthgpfnbajjmcdaaGreatDoorTk0a
import Derived.Test.YthgpfnbajjmcdaaGreatDoorTk0b
import Derived.Test.YthgpfnbajjmcdaaGreatDoorTk0c
import Derived.Test.YthgpfnbajjmcdaaGreatDoorTk0d
import Derived.Test.YthgpfnbajjmcdaaGreatDoorTk0e
import Derived.Test.YthgpfnbajjmcdaaGreatDoorTk1a
import Derived.Test.YthgpfnbajjmcdaaGreatDoorTk1b
import Derived.Test.YthgpfnbajjmcdaaGreatDoorTk1c
import Derived.Test.YthgpfnbajjmcdaaGreatDoorTk1d
import Derived.Test.YthgpfnbajjmcdaaGreatDoorTk1e
import Derived.Test.YthgpfnbajjmcdaaGreatDoorTk2a
import Derived.Test.YthgpfnbajjmcdaaGreatDoorTk2b
import Derived.Test.YthgpfnbajjmcdaaGreatDoorTk2c
import Derived.Test.YthgpfnbajjmcdaaGreatDoorTk2d
import Derived.Test.YthgpfnbajjmcdaaGreatDoorTk2e
namespace Go.Proofs.YthgpfnbajjmcdaaGreatDoor.Vw
open LB
set_option maxHeartbeats 16000000
theorem fu_f : Tryz.prog.funcs[(3 : Nat)]? = some fuF := by
  have h := flt 3 rfl
  unfold fuF
  rw [getElem!_pos Tryz.prog.funcs _ h, Array.getElem?_eq_getElem h]
theorem fu_some : fuF.body.isSome = true := by decide +kernel
theorem fu_b : fuF.body = some fuB := by
  unfold fuB
  cases h : fuF.body with
  | none => have := fu_some; rw [h] at this; cases this
  | some c => rfl
theorem fu_nt : Nat.beq fuF.ntmps 113 = true := by decide +kernel
theorem fu_res : oneTmp fuF.results.toList 2 = true := by decide +kernel
theorem fu_shape : (isSeq fuB && isSeq (cr fuB) && isSeq (cr (cr fuB)) && isSeq (cr (cr (cr fuB))) && isSeq (cr (cr (cr (cr fuB)))) && isSeq fuL && isSeq (cl fuL) && isBlk 0 (cr (cl fuL)) && isLoop (cb (cr (cl fuL)))) = true := by decide +kernel
theorem fu_run0 {a : Act} {w0 w : World} {R : Ending → World → Prop} (st : TopSt Tryz.prog fuLive 113 w0 (ofL tg0F0) (heapOf []) ([] : List LB).length a w) (hR : ∀ w', RowKit.Below w0.heap.size w0 w' → R (.returned (.bool true)) w') : (cr (cr fuB)).wp Tryz.prog (bodyPost Tryz.prog fuF R) a w := by
  have hs := fu_shape
  simp only [Bool.and_eq_true] at hs
  obtain ⟨⟨⟨⟨⟨⟨⟨⟨_, _⟩, s3⟩, s4⟩, s5⟩, s6⟩, s7⟩, s8⟩, s9⟩ := hs
  refine go_seq s3 (hE2.piece rfl st f0_a fun a w st => ?_)
  refine go_seq s4 (hE2.piece rfl st f0_b fun a w st => ?_)
  refine go_seq s5 (hE2.piece rfl st f0_c fun a w st => ?_)
  refine go_seq s6 (go_seq s7 (hE2.piece rfl st f0_d fun a w st => ?_))
  refine go_blk s8 (go_loop s9 ?_)
  refine hE2.rounds rfl st f0_0 fun a w st => ?_
  refine hE2.rounds rfl st f0_1 fun a w st => ?_
  refine hE2.rounds rfl st f0_2 fun a w st => ?_
  refine hE2.rounds rfl st f0_3 fun a w st => ?_
  refine hE2.rounds rfl st f0_4 fun a w st => ?_
  refine hE2.rounds rfl st f0_5 fun a w st => ?_
  refine hE2.rounds rfl st f0_6 fun a w st => ?_
  refine hE2.rounds rfl st f0_7 fun a w st => ?_
  refine hE2.rounds rfl st f0_8 fun a w st => ?_
  refine hE2.rounds rfl st f0_9 fun a w st => ?_
  refine hE2.rounds rfl st f0_10 fun a w st => ?_
  refine hE2.rounds rfl st f0_11 fun a w st => ?_
  refine hE2.rounds rfl st f0_12 fun a w st => ?_
  refine hE2.rounds rfl st f0_13 fun a w st => ?_
  refine hE2.rounds rfl st f0_14 fun a w st => ?_
  refine hE2.rounds rfl st f0_15 fun a w st => ?_
  refine hE2.rounds rfl st f0_16 fun a w st => ?_
  refine hE2.rounds rfl st f0_17 fun a w st => ?_
  refine hE2.rounds rfl st f0_18 fun a w st => ?_
  refine hE2.rounds rfl st f0_19 fun a w st => ?_
  refine hE2.rounds rfl st f0_20 fun a w st => ?_
  refine hE2.rounds rfl st f0_21 fun a w st => ?_
  refine hE2.rounds rfl st f0_22 fun a w st => ?_
  refine hE2.rounds rfl st f0_23 fun a w st => ?_
  refine hE2.rounds rfl st f0_24 fun a w st => ?_
  refine hE2.rounds rfl st f0_25 fun a w st => ?_
  refine hE2.leave rfl st (fun h => by cases h) f0_x fun a w st => ?_
  refine hE2.piece rfl st f0_e fun a w st => ?_
  exact st.gives rfl (oneTmp_eq fu_res) (i := 1) rfl rfl (hR w)
theorem fu_run1 {a : Act} {w0 w : World} {R : Ending → World → Prop} (st : TopSt Tryz.prog fuLive 113 w0 (ofL tg1F0) (heapOf []) ([] : List LB).length a w) (hR : ∀ w', RowKit.Below w0.heap.size w0 w' → R (.returned (.bool true)) w') : (cr (cr fuB)).wp Tryz.prog (bodyPost Tryz.prog fuF R) a w := by
  have hs := fu_shape
  simp only [Bool.and_eq_true] at hs
  obtain ⟨⟨⟨⟨⟨⟨⟨⟨_, _⟩, s3⟩, s4⟩, s5⟩, s6⟩, s7⟩, s8⟩, s9⟩ := hs
  refine go_seq s3 (hE2.piece rfl st f1_a fun a w st => ?_)
  refine go_seq s4 (hE2.piece rfl st f1_b fun a w st => ?_)
  refine go_seq s5 (hE2.piece rfl st f1_c fun a w st => ?_)
  refine go_seq s6 (go_seq s7 (hE2.piece rfl st f1_d fun a w st => ?_))
  refine go_blk s8 (go_loop s9 ?_)
  refine hE2.rounds rfl st f1_0 fun a w st => ?_
  refine hE2.rounds rfl st f1_1 fun a w st => ?_
  refine hE2.rounds rfl st f1_2 fun a w st => ?_
  refine hE2.rounds rfl st f1_3 fun a w st => ?_
  refine hE2.rounds rfl st f1_4 fun a w st => ?_
  refine hE2.rounds rfl st f1_5 fun a w st => ?_
  refine hE2.rounds rfl st f1_6 fun a w st => ?_
  refine hE2.rounds rfl st f1_7 fun a w st => ?_
  refine hE2.rounds rfl st f1_8 fun a w st => ?_
  refine hE2.rounds rfl st f1_9 fun a w st => ?_
  refine hE2.rounds rfl st f1_10 fun a w st => ?_
  refine hE2.rounds rfl st f1_11 fun a w st => ?_
  refine hE2.rounds rfl st f1_12 fun a w st => ?_
  refine hE2.rounds rfl st f1_13 fun a w st => ?_
  refine hE2.rounds rfl st f1_14 fun a w st => ?_
  refine hE2.rounds rfl st f1_15 fun a w st => ?_
  refine hE2.rounds rfl st f1_16 fun a w st => ?_
  refine hE2.rounds rfl st f1_17 fun a w st => ?_
  refine hE2.rounds rfl st f1_18 fun a w st => ?_
  refine hE2.rounds rfl st f1_19 fun a w st => ?_
  refine hE2.rounds rfl st f1_20 fun a w st => ?_
  refine hE2.rounds rfl st f1_21 fun a w st => ?_
  refine hE2.rounds rfl st f1_22 fun a w st => ?_
  refine hE2.rounds rfl st f1_23 fun a w st => ?_
  refine hE2.rounds rfl st f1_24 fun a w st => ?_
  refine hE2.rounds rfl st f1_25 fun a w st => ?_
  refine hE2.leave rfl st (fun h => by cases h) f1_x fun a w st => ?_
  refine hE2.piece rfl st f1_e fun a w st => ?_
  exact st.gives rfl (oneTmp_eq fu_res) (i := 1) rfl rfl (hR w)
theorem fu_run2 {a : Act} {w0 w : World} {R : Ending → World → Prop} (st : TopSt Tryz.prog fuLive 113 w0 (ofL tg2F0) (heapOf []) ([] : List LB).length a w) (hR : ∀ w', RowKit.Below w0.heap.size w0 w' → R (.returned (.bool true)) w') : (cr (cr fuB)).wp Tryz.prog (bodyPost Tryz.prog fuF R) a w := by
  have hs := fu_shape
  simp only [Bool.and_eq_true] at hs
  obtain ⟨⟨⟨⟨⟨⟨⟨⟨_, _⟩, s3⟩, s4⟩, s5⟩, s6⟩, s7⟩, s8⟩, s9⟩ := hs
  refine go_seq s3 (hE2.piece rfl st f2_a fun a w st => ?_)
  refine go_seq s4 (hE2.piece rfl st f2_b fun a w st => ?_)
  refine go_seq s5 (hE2.piece rfl st f2_c fun a w st => ?_)
  refine go_seq s6 (go_seq s7 (hE2.piece rfl st f2_d fun a w st => ?_))
  refine go_blk s8 (go_loop s9 ?_)
  refine hE2.rounds rfl st f2_0 fun a w st => ?_
  refine hE2.rounds rfl st f2_1 fun a w st => ?_
  refine hE2.rounds rfl st f2_2 fun a w st => ?_
  refine hE2.rounds rfl st f2_3 fun a w st => ?_
  refine hE2.rounds rfl st f2_4 fun a w st => ?_
  refine hE2.rounds rfl st f2_5 fun a w st => ?_
  refine hE2.rounds rfl st f2_6 fun a w st => ?_
  refine hE2.rounds rfl st f2_7 fun a w st => ?_
  refine hE2.rounds rfl st f2_8 fun a w st => ?_
  refine hE2.rounds rfl st f2_9 fun a w st => ?_
  refine hE2.rounds rfl st f2_10 fun a w st => ?_
  refine hE2.rounds rfl st f2_11 fun a w st => ?_
  refine hE2.rounds rfl st f2_12 fun a w st => ?_
  refine hE2.rounds rfl st f2_13 fun a w st => ?_
  refine hE2.rounds rfl st f2_14 fun a w st => ?_
  refine hE2.rounds rfl st f2_15 fun a w st => ?_
  refine hE2.rounds rfl st f2_16 fun a w st => ?_
  refine hE2.rounds rfl st f2_17 fun a w st => ?_
  refine hE2.rounds rfl st f2_18 fun a w st => ?_
  refine hE2.rounds rfl st f2_19 fun a w st => ?_
  refine hE2.rounds rfl st f2_20 fun a w st => ?_
  refine hE2.rounds rfl st f2_21 fun a w st => ?_
  refine hE2.rounds rfl st f2_22 fun a w st => ?_
  refine hE2.rounds rfl st f2_23 fun a w st => ?_
  refine hE2.rounds rfl st f2_24 fun a w st => ?_
  refine hE2.rounds rfl st f2_25 fun a w st => ?_
  refine hE2.leave rfl st (fun h => by cases h) f2_x fun a w st => ?_
  refine hE2.piece rfl st f2_e fun a w st => ?_
  exact st.gives rfl (oneTmp_eq fu_res) (i := 1) rfl rfl (hR w)
end Go.Proofs.YthgpfnbajjmcdaaGreatDoor.Vw
