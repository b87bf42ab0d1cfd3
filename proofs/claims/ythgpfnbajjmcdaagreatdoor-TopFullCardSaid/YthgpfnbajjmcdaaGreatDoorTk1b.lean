/-
  gatehousetop.TopFull: pieces of its run.
-/
import Derived.Test.YthgpfnbajjmcdaaGreatDoorTf1
namespace Go.Proofs.YthgpfnbajjmcdaaGreatDoor.Vw
open LB
set_option maxHeartbeats 16000000 in
theorem f1_5 : fr 6 (tfF 1 43) (tfH 1 43) [0, 1, 2, 3, 4, 5, 6, 7, 8, 9, 10, 11, 12, 13, 14, 15, 16, 17, 18, 19, 20, 21, 22, 4728] (tfF 1 49) (tfH 1 49) := by decide +kernel
set_option maxHeartbeats 16000000 in
theorem f1_6 : fr 6 (tfF 1 49) (tfH 1 49) [0, 1, 2, 3, 4, 5, 6, 7, 8, 9, 10, 11, 12, 13, 14, 15, 16, 17, 18, 19, 20, 21, 22, 5052] (tfF 1 55) (tfH 1 55) := by decide +kernel
set_option maxHeartbeats 16000000 in
theorem f1_7 : fr 6 (tfF 1 55) (tfH 1 55) [0, 1, 2, 3, 4, 5, 6, 7, 8, 9, 10, 11, 12, 13, 14, 15, 16, 17, 18, 19, 20, 21, 22, 5376] (tfF 1 61) (tfH 1 61) := by decide +kernel
set_option maxHeartbeats 16000000 in
theorem f1_8 : fr 5 (tfF 1 61) (tfH 1 61) [0, 1, 2, 3, 4, 5, 6, 7, 8, 9, 10, 11, 12, 13, 14, 15, 16, 17, 18, 19, 20, 21, 22, 4705] (tfF 1 66) (tfH 1 66) := by decide +kernel
set_option maxHeartbeats 16000000 in
theorem f1_9 : fr 5 (tfF 1 66) (tfH 1 66) [0, 1, 2, 3, 4, 5, 6, 7, 8, 9, 10, 11, 12, 13, 14, 15, 16, 17, 18, 19, 20, 21, 22, 4930] (tfF 1 71) (tfH 1 71) := by decide +kernel
set_option maxHeartbeats 16000000 in
theorem f1_10 : fr 5 (tfF 1 71) (tfH 1 71) [0, 1, 2, 3, 4, 5, 6, 7, 8, 9, 10, 11, 12, 13, 14, 15, 16, 17, 18, 19, 20, 21, 22, 5155] (tfF 1 76) (tfH 1 76) := by decide +kernel
set_option maxHeartbeats 16000000 in
theorem f1_11 : fr 5 (tfF 1 76) (tfH 1 76) [0, 1, 2, 3, 4, 5, 6, 7, 8, 9, 10, 11, 12, 13, 14, 15, 16, 17, 18, 19, 20, 21, 22, 5380] (tfF 1 81) (tfH 1 81) := by decide +kernel
end Go.Proofs.YthgpfnbajjmcdaaGreatDoor.Vw
