/-
  gatehousetop.TopTcp: pieces of its run.
-/
import Derived.Test.YtccbdaffjkdpgaaGreatDoorTs
namespace Go.Proofs.YtccbdaffjkdpgaaGreatDoor.Vw
open LB
set_option maxHeartbeats 16000000 in
theorem p4_u : partsB (callR EE4 1000) TY4' tcLive 157 2 tcC tS4 [] (seqL 22) tQ4 UpH13 = true := by decide +kernel
set_option maxHeartbeats 16000000 in
theorem p4_a : partsB (callR EE4 1000) TY4' tcLive 157 8 tcU tQ4 UpH13 sa4 tP4 (tH4 0) = true := by decide +kernel
set_option maxHeartbeats 16000000 in
theorem p4_b : pieceB (callR EE4 1000) (ccode TY4' tcLive 157 (cl (cl tcD))) .n tP4 (tH4 0) sl4 (tF4 0) (tH4 0) = true := by decide +kernel
set_option maxHeartbeats 16000000 in
theorem p4_h : allB 100 0 (fun i => pieceB (callR (EI i) 1000) (ccode (TI i) tcLive 157 (cl tcR)) .n (tF4 i) (tH4 i) sl4 (tG4 i) (tH4 i)) = true := by decide +kernel
set_option maxHeartbeats 16000000 in
theorem p4_x : allB 101 0 (fun i => pieceB (callR (EO i) 1000) (ccode (TO i) tcLive 157 (cl tcR)) (.x 0) (tF4 i) (tH4 i) sl4 (tX4 i) (tH4 i)) = true := by decide +kernel
set_option maxHeartbeats 16000000 in
theorem p4_e : allB 101 0 (fun i => endB (callR EE4 1000) (ccode TY4' tcLive 157 (cr tcD)) 4 (tX4 i) (tH4 i)) = true := by decide +kernel
set_option maxHeartbeats 16000000 in
theorem p4_l0 : allB 50 0 (fun i => pieceB (callR EE4 1000) (ccode TY4' tcLive 157 (cr tcR)) .n (tG4 i) (tH4 i) sl4 (tF4 (i + 1)) (tH4 (i + 1))) = true := by decide +kernel
set_option maxHeartbeats 16000000 in
theorem p4_l1 : allB 50 50 (fun i => pieceB (callR EE4 1000) (ccode TY4' tcLive 157 (cr tcR)) .n (tG4 i) (tH4 i) sl4 (tF4 (i + 1)) (tH4 (i + 1))) = true := by decide +kernel
end Go.Proofs.YtccbdaffjkdpgaaGreatDoor.Vw
