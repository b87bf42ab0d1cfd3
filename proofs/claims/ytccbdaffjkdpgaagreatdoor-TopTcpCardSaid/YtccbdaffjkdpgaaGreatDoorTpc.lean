/-
  gatehousetop.TopTcp: pieces of its run.
-/
import Derived.Test.YtccbdaffjkdpgaaGreatDoorTs
namespace Go.Proofs.YtccbdaffjkdpgaaGreatDoor.Vw
open LB
set_option maxHeartbeats 16000000 in
theorem p2_u : partsB (callR EE2 1000) TY2' tcLive 157 2 tcC tS2 [] (seqL 22) tQ2 UpH13 = true := by decide +kernel
set_option maxHeartbeats 16000000 in
theorem p2_a : partsB (callR EE2 1000) TY2' tcLive 157 8 tcU tQ2 UpH13 sa2 tP2 (tH2 0) = true := by decide +kernel
set_option maxHeartbeats 16000000 in
theorem p2_b : pieceB (callR EE2 1000) (ccode TY2' tcLive 157 (cl (cl tcD))) .n tP2 (tH2 0) sl2 (tF2 0) (tH2 0) = true := by decide +kernel
set_option maxHeartbeats 16000000 in
theorem p2_h : allB 100 0 (fun i => pieceB (callR (EI i) 1000) (ccode (TI i) tcLive 157 (cl tcR)) .n (tF2 i) (tH2 i) sl2 (tG2 i) (tH2 i)) = true := by decide +kernel
set_option maxHeartbeats 16000000 in
theorem p2_x : allB 101 0 (fun i => pieceB (callR (EO i) 1000) (ccode (TO i) tcLive 157 (cl tcR)) (.x 0) (tF2 i) (tH2 i) sl2 (tX2 i) (tH2 i)) = true := by decide +kernel
set_option maxHeartbeats 16000000 in
theorem p2_e : allB 101 0 (fun i => endB (callR EE2 1000) (ccode TY2' tcLive 157 (cr tcD)) 4 (tX2 i) (tH2 i)) = true := by decide +kernel
set_option maxHeartbeats 16000000 in
theorem p2_l0 : allB 50 0 (fun i => pieceB (callR EE2 1000) (ccode TY2' tcLive 157 (cr tcR)) .n (tG2 i) (tH2 i) sl2 (tF2 (i + 1)) (tH2 (i + 1))) = true := by decide +kernel
set_option maxHeartbeats 16000000 in
theorem p2_l1 : allB 50 50 (fun i => pieceB (callR EE2 1000) (ccode TY2' tcLive 157 (cr tcR)) .n (tG2 i) (tH2 i) sl2 (tF2 (i + 1)) (tH2 (i + 1))) = true := by decide +kernel
end Go.Proofs.YtccbdaffjkdpgaaGreatDoor.Vw
