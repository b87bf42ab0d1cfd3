/-
  gatehousetop.TopTcp: pieces of its run.
-/
import Derived.Test.YtccbdaffjkdpgaaGreatDoorTs
namespace Go.Proofs.YtccbdaffjkdpgaaGreatDoor.Vw
open LB
set_option maxHeartbeats 16000000 in
theorem p5_u : partsB (callR EE5 1000) TY5' tcLive 157 2 tcC tS5 [] (seqL 22) tQ5 UpH13 = true := by decide +kernel
set_option maxHeartbeats 16000000 in
theorem p5_a : partsB (callR EE5 1000) TY5' tcLive 157 8 tcU tQ5 UpH13 sa5 tP5 (tH5 0) = true := by decide +kernel
set_option maxHeartbeats 16000000 in
theorem p5_b : pieceB (callR EE5 1000) (ccode TY5' tcLive 157 (cl (cl tcD))) .n tP5 (tH5 0) sl5 (tF5 0) (tH5 0) = true := by decide +kernel
set_option maxHeartbeats 16000000 in
theorem p5_h : allB 100 0 (fun i => pieceB (callR (EI i) 1000) (ccode (TI i) tcLive 157 (cl tcR)) .n (tF5 i) (tH5 i) sl5 (tG5 i) (tH5 i)) = true := by decide +kernel
set_option maxHeartbeats 16000000 in
theorem p5_x : allB 101 0 (fun i => pieceB (callR (EO i) 1000) (ccode (TO i) tcLive 157 (cl tcR)) (.x 0) (tF5 i) (tH5 i) sl5 (tX5 i) (tH5 i)) = true := by decide +kernel
set_option maxHeartbeats 16000000 in
theorem p5_e : allB 101 0 (fun i => endB (callR EE5 1000) (ccode TY5' tcLive 157 (cr tcD)) 4 (tX5 i) (tH5 i)) = true := by decide +kernel
set_option maxHeartbeats 16000000 in
theorem p5_l0 : allB 50 0 (fun i => pieceB (callR EE5 1000) (ccode TY5' tcLive 157 (cr tcR)) .n (tG5 i) (tH5 i) sl5 (tF5 (i + 1)) (tH5 (i + 1))) = true := by decide +kernel
set_option maxHeartbeats 16000000 in
theorem p5_l1 : allB 50 50 (fun i => pieceB (callR EE5 1000) (ccode TY5' tcLive 157 (cr tcR)) .n (tG5 i) (tH5 i) sl5 (tF5 (i + 1)) (tH5 (i + 1))) = true := by decide +kernel
end Go.Proofs.YtccbdaffjkdpgaaGreatDoor.Vw
