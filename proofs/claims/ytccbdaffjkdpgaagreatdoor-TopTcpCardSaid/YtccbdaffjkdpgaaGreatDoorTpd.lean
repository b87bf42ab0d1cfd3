/-
  gatehousetop.TopTcp: pieces of its run.
-/
import Derived.Test.YtccbdaffjkdpgaaGreatDoorTs
namespace Go.Proofs.YtccbdaffjkdpgaaGreatDoor.Vw
open LB
set_option maxHeartbeats 16000000 in
theorem p3_u : partsB (callR EE3 1000) TY3' tcLive 157 2 tcC tS3 [] (seqL 22) tQ3 UpH13 = true := by decide +kernel
set_option maxHeartbeats 16000000 in
theorem p3_a : partsB (callR EE3 1000) TY3' tcLive 157 8 tcU tQ3 UpH13 sa3 tP3 (tH3 0) = true := by decide +kernel
set_option maxHeartbeats 16000000 in
theorem p3_b : pieceB (callR EE3 1000) (ccode TY3' tcLive 157 (cl (cl tcD))) .n tP3 (tH3 0) sl3 (tF3 0) (tH3 0) = true := by decide +kernel
set_option maxHeartbeats 16000000 in
theorem p3_h : allB 100 0 (fun i => pieceB (callR (EI i) 1000) (ccode (TI i) tcLive 157 (cl tcR)) .n (tF3 i) (tH3 i) sl3 (tG3 i) (tH3 i)) = true := by decide +kernel
set_option maxHeartbeats 16000000 in
theorem p3_x : allB 101 0 (fun i => pieceB (callR (EO i) 1000) (ccode (TO i) tcLive 157 (cl tcR)) (.x 0) (tF3 i) (tH3 i) sl3 (tX3 i) (tH3 i)) = true := by decide +kernel
set_option maxHeartbeats 16000000 in
theorem p3_e : allB 101 0 (fun i => endB (callR EE3 1000) (ccode TY3' tcLive 157 (cr tcD)) 4 (tX3 i) (tH3 i)) = true := by decide +kernel
set_option maxHeartbeats 16000000 in
theorem p3_l0 : allB 50 0 (fun i => pieceB (callR EE3 1000) (ccode TY3' tcLive 157 (cr tcR)) .n (tG3 i) (tH3 i) sl3 (tF3 (i + 1)) (tH3 (i + 1))) = true := by decide +kernel
set_option maxHeartbeats 16000000 in
theorem p3_l1 : allB 50 50 (fun i => pieceB (callR EE3 1000) (ccode TY3' tcLive 157 (cr tcR)) .n (tG3 i) (tH3 i) sl3 (tF3 (i + 1)) (tH3 (i + 1))) = true := by decide +kernel
end Go.Proofs.YtccbdaffjkdpgaaGreatDoor.Vw
