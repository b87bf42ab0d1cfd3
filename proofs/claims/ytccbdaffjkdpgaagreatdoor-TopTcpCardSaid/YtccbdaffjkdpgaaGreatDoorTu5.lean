/-
  gatehousetop.up: what it hands back: a gateway that has an address, three hosts that have leases.
-/
import Derived.Test.YtccbdaffjkdpgaaGreatDoorTu1
import Derived.Test.YtccbdaffjkdpgaaGreatDoorTu2
import Derived.Test.YtccbdaffjkdpgaaGreatDoorTu3
import Derived.Test.YtccbdaffjkdpgaaGreatDoorTu4
namespace Go.Proofs.YtccbdaffjkdpgaaGreatDoor.Vw
open LB
set_option maxHeartbeats 16000000
theorem up_f : Tryz.prog.funcs[(5 : Nat)]? = some upF := by
  have h := flt
  unfold upF
  rw [getElem!_pos Tryz.prog.funcs _ h, Array.getElem?_eq_getElem h]
theorem up_some : upF.body.isSome = true := by decide +kernel
theorem up_b : upF.body = some upB := by
  unfold upB
  cases h : upF.body with
  | none => have := up_some; rw [h] at this; cases this
  | some c => rfl
theorem up_nt : Nat.beq upF.ntmps 28 = true := by decide +kernel
theorem up_live : allLt upLive 28 = true := by decide +kernel
theorem up_res : oneTmp upF.results.toList 0 = true := by decide +kernel
theorem up_shape : (isSeq upB && isSeq (cr upB) && isSeq (cr (cr upB)) && isSeq (cr (cr (cr upB))) && isSeq (cr (cr (cr (cr upB)))) && isSeq (cr (cr (cr (cr (cr upB))))) && isSeq (cr (cr (cr (cr (cr (cr upB)))))) && isSeq lp && isBlk 0 (cr lp) && isLoop (cb (cr lp)) && isSeq (cr (cr (cr (cr (cr (cr (cr upB)))))))) = true := by decide +kernel
theorem up_calls [Val] : ∀ w0, Calls Tryz.prog 5 #[] w0 (Handed Tryz.prog (qa 13 0) UpH13 w0) := fun w0 => by
  have hs := up_shape
  simp only [Bool.and_eq_true] at hs
  obtain ⟨⟨⟨⟨⟨⟨⟨⟨⟨⟨s1, s2⟩, s3⟩, s4⟩, s5⟩, s6⟩, s7⟩, s8⟩, s9⟩, s10⟩, s11⟩ := hs
  refine TopSt.enter0 up_f up_b (Nat.eq_of_beq_eq_true up_nt) up_live fun a st => ?_
  refine go_seq s1 (hE1.piece rfl st up_1 fun a w st => ?_)
  refine go_seq s2 (hE1.piece rfl st up_2 fun a w st => ?_)
  refine go_seq s3 (hE1.piece rfl st up_3 fun a w st => ?_)
  refine go_seq s4 (hE1.piece rfl st up_4 fun a w st => ?_)
  refine go_seq s5 (hE1.piece rfl st up_5 fun a w st => ?_)
  refine go_seq s6 (hE1.piece rfl st up_6 fun a w st => ?_)
  refine go_seq s7 (go_seq s8 (hE1.piece rfl st up_7 fun a w st => ?_))
  refine go_blk s9 (go_loop s10 ?_)
  refine hE1.rounds rfl st up_8 fun a w st => ?_
  refine hE1.rounds rfl st up_9 fun a w st => ?_
  refine hE1.rounds rfl st up_10 fun a w st => ?_
  refine hE1.leave rfl st (fun h => by cases h) up_11 fun a w st => ?_
  refine go_seq s11 (hE1.piece rfl st up_12 fun a w st => ?_)
  refine hE1.piece rfl st up_13 fun a w st => ?_
  exact st.hands rfl (oneTmp_eq up_res) (i := 0) rfl rfl
theorem up_sum [Val] : CallAt Tryz.prog 5 (toldSum (qa 13 0) UpH13) := sum_told ⟨upF, up_f, hname _ _ up_f, by rw [up_b]; rfl⟩ (by decide +kernel) rfl up_calls
end Go.Proofs.YtccbdaffjkdpgaaGreatDoor.Vw
