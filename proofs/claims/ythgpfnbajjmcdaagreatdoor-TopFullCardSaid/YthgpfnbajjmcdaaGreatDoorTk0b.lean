/-
  gatehousetop.TopFull: pieces of its run.
-/
import Derived.Test.YthgpfnbajjmcdaaGreatDoorTf1
namespace Go.Proofs.YthgpfnbajjmcdaaGreatDoor.Vw
open LB
set_option maxHeartbeats 16000000 in
theorem f0_5 : fr 6 (tfF 0 43) (tfH 0 43) [0, 1, 2, 3, 4, 5, 6, 7, 8, 9, 10, 11, 12, 13, 14, 15, 16, 17, 18, 19, 20, 21, 22, 4722] (tfF 0 49) (tfH 0 49) := by decide +kernel
set_option maxHeartbeats 16000000 in
theorem f0_6 : fr 6 (tfF 0 49) (tfH 0 49) [0, 1, 2, 3, 4, 5, 6, 7, 8, 9, 10, 11, 12, 13, 14, 15, 16, 17, 18, 19, 20, 21, 22, 5046] (tfF 0 55) (tfH 0 55) := by decide +kernel
set_option maxHeartbeats 16000000 in
theorem f0_7 : fr 6 (tfF 0 55) (tfH 0 55) [0, 1, 2, 3, 4, 5, 6, 7, 8, 9, 10, 11, 12, 13, 14, 15, 16, 17, 18, 19, 20, 21, 22, 5370] (tfF 0 61) (tfH 0 61) := by decide +kernel
set_option maxHeartbeats 16000000 in
theorem f0_8 : fr 5 (tfF 0 61) (tfH 0 61) [0, 1, 2, 3, 4, 5, 6, 7, 8, 9, 10, 11, 12, 13, 14, 15, 16, 17, 18, 19, 20, 21, 22, 4700] (tfF 0 66) (tfH 0 66) := by decide +kernel
set_option maxHeartbeats 16000000 in
theorem f0_9 : fr 5 (tfF 0 66) (tfH 0 66) [0, 1, 2, 3, 4, 5, 6, 7, 8, 9, 10, 11, 12, 13, 14, 15, 16, 17, 18, 19, 20, 21, 22, 4925] (tfF 0 71) (tfH 0 71) := by decide +kernel
set_option maxHeartbeats 16000000 in
theorem f0_10 : fr 5 (tfF 0 71) (tfH 0 71) [0, 1, 2, 3, 4, 5, 6, 7, 8, 9, 10, 11, 12, 13, 14, 15, 16, 17, 18, 19, 20, 21, 22, 5150] (tfF 0 76) (tfH 0 76) := by decide +kernel
set_option maxHeartbeats 16000000 in
theorem f0_11 : fr 5 (tfF 0 76) (tfH 0 76) [0, 1, 2, 3, 4, 5, 6, 7, 8, 9, 10, 11, 12, 13, 14, 15, 16, 17, 18, 19, 20, 21, 22, 5375] (tfF 0 81) (tfH 0 81) := by decide +kernel
end Go.Proofs.YthgpfnbajjmcdaaGreatDoor.Vw
