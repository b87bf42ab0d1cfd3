/-
  gatehousetop.TopTcp: pieces of its run.
-/
import Derived.Test.YtccbdaffjkdpgaaGreatDoorTs
namespace Go.Proofs.YtccbdaffjkdpgaaGreatDoor.Vw
open LB
set_option maxHeartbeats 16000000 in
theorem p1_u : partsB (callR EE1 1000) TY1' tcLive 157 2 tcC tS1 [] (seqL 22) tQ1 UpH13 = true := by decide +kernel
set_option maxHeartbeats 16000000 in
theorem p1_a : partsB (callR EE1 1000) TY1' tcLive 157 8 tcU tQ1 UpH13 sa1 tP1 (tH1 0) = true := by decide +kernel
set_option maxHeartbeats 16000000 in
theorem p1_b : pieceB (callR EE1 1000) (ccode TY1' tcLive 157 (cl (cl tcD))) .n tP1 (tH1 0) sl1 (tF1 0) (tH1 0) = true := by decide +kernel
set_option maxHeartbeats 16000000 in
theorem p1_h : allB 100 0 (fun i => pieceB (callR (EI i) 1000) (ccode (TI i) tcLive 157 (cl tcR)) .n (tF1 i) (tH1 i) sl1 (tG1 i) (tH1 i)) = true := by decide +kernel
set_option maxHeartbeats 16000000 in
theorem p1_x : allB 101 0 (fun i => pieceB (callR (EO i) 1000) (ccode (TO i) tcLive 157 (cl tcR)) (.x 0) (tF1 i) (tH1 i) sl1 (tX1 i) (tH1 i)) = true := by decide +kernel
set_option maxHeartbeats 16000000 in
theorem p1_e : allB 101 0 (fun i => endB (callR EE1 1000) (ccode TY1' tcLive 157 (cr tcD)) 4 (tX1 i) (tH1 i)) = true := by decide +kernel
set_option maxHeartbeats 16000000 in
theorem p1_l0 : allB 50 0 (fun i => pieceB (callR EE1 1000) (ccode TY1' tcLive 157 (cr tcR)) .n (tG1 i) (tH1 i) sl1 (tF1 (i + 1)) (tH1 (i + 1))) = true := by decide +kernel
set_option maxHeartbeats 16000000 in
theorem p1_l1 : allB 50 50 (fun i => pieceB (callR EE1 1000) (ccode TY1' tcLive 157 (cr tcR)) .n (tG1 i) (tH1 i) sl1 (tF1 (i + 1)) (tH1 (i + 1))) = true := by decide +kernel
end Go.Proofs.YtccbdaffjkdpgaaGreatDoor.Vw
