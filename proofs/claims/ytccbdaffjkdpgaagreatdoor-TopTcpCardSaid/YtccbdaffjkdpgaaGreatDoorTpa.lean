/-
  gatehousetop.TopTcp: pieces of its run.
-/
import Derived.Test.YtccbdaffjkdpgaaGreatDoorTs
namespace Go.Proofs.YtccbdaffjkdpgaaGreatDoor.Vw
open LB
set_option maxHeartbeats 16000000 in
theorem p0_u : partsB (callR EE0 1000) TY0' tcLive 157 2 tcC tS0 [] (seqL 22) tQ0 UpH13 = true := by decide +kernel
set_option maxHeartbeats 16000000 in
theorem p0_a : partsB (callR EE0 1000) TY0' tcLive 157 8 tcU tQ0 UpH13 sa0 tP0 (tH0 0) = true := by decide +kernel
set_option maxHeartbeats 16000000 in
theorem p0_b : pieceB (callR EE0 1000) (ccode TY0' tcLive 157 (cl (cl tcD))) .n tP0 (tH0 0) sl0 (tF0 0) (tH0 0) = true := by decide +kernel
set_option maxHeartbeats 16000000 in
theorem p0_h : allB 100 0 (fun i => pieceB (callR (EI i) 1000) (ccode (TI i) tcLive 157 (cl tcR)) .n (tF0 i) (tH0 i) sl0 (tG0 i) (tH0 i)) = true := by decide +kernel
set_option maxHeartbeats 16000000 in
theorem p0_x : allB 101 0 (fun i => pieceB (callR (EO i) 1000) (ccode (TO i) tcLive 157 (cl tcR)) (.x 0) (tF0 i) (tH0 i) sl0 (tX0 i) (tH0 i)) = true := by decide +kernel
set_option maxHeartbeats 16000000 in
theorem p0_e : allB 101 0 (fun i => endB (callR EE0 1000) (ccode TY0' tcLive 157 (cr tcD)) 4 (tX0 i) (tH0 i)) = true := by decide +kernel
set_option maxHeartbeats 16000000 in
theorem p0_l0 : allB 50 0 (fun i => pieceB (callR EE0 1000) (ccode TY0' tcLive 157 (cr tcR)) .n (tG0 i) (tH0 i) sl0 (tF0 (i + 1)) (tH0 (i + 1))) = true := by decide +kernel
set_option maxHeartbeats 16000000 in
theorem p0_l1 : allB 50 50 (fun i => pieceB (callR EE0 1000) (ccode TY0' tcLive 157 (cr tcR)) .n (tG0 i) (tH0 i) sl0 (tF0 (i + 1)) (tH0 (i + 1))) = true := by decide +kernel
end Go.Proofs.YtccbdaffjkdpgaaGreatDoor.Vw
