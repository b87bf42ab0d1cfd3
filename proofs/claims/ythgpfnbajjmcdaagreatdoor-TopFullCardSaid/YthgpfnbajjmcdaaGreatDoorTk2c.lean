/-
  gatehousetop.TopFull: pieces of its run.
-/
import Derived.Test.YthgpfnbajjmcdaaGreatDoorTf1
namespace Go.Proofs.YthgpfnbajjmcdaaGreatDoor.Vw
open LB
set_option maxHeartbeats 16000000 in
theorem f2_12 : fr 5 (tfF 2 81) (tfH 2 81) [0, 1, 2, 3, 4, 5, 6, 7, 8, 9, 10, 11, 12, 13, 14, 15, 16, 17, 18, 19, 20, 21, 22, 5610] (tfF 2 86) (tfH 2 86) := by decide +kernel
set_option maxHeartbeats 16000000 in
theorem f2_13 : fr 4 (tfF 2 86) (tfH 2 86) [0, 1, 2, 3, 4, 5, 6, 7, 8, 9, 10, 11, 12, 13, 14, 15, 16, 17, 18, 19, 20, 21, 22, 4623] (tfF 2 90) (tfH 2 90) := by decide +kernel
set_option maxHeartbeats 16000000 in
theorem f2_14 : fr 4 (tfF 2 90) (tfH 2 90) [0, 1, 2, 3, 4, 5, 6, 7, 8, 9, 10, 11, 12, 13, 14, 15, 16, 17, 18, 19, 20, 21, 22, 4767] (tfF 2 94) (tfH 2 94) := by decide +kernel
set_option maxHeartbeats 16000000 in
theorem f2_15 : fr 4 (tfF 2 94) (tfH 2 94) [0, 1, 2, 3, 4, 5, 6, 7, 8, 9, 10, 11, 12, 13, 14, 15, 16, 17, 18, 19, 20, 21, 22, 4911] (tfF 2 98) (tfH 2 98) := by decide +kernel
set_option maxHeartbeats 16000000 in
theorem f2_16 : fr 4 (tfF 2 98) (tfH 2 98) [0, 1, 2, 3, 4, 5, 6, 7, 8, 9, 10, 11, 12, 13, 14, 15, 16, 17, 18, 19, 20, 21, 22, 5055] (tfF 2 102) (tfH 2 102) := by decide +kernel
set_option maxHeartbeats 16000000 in
theorem f2_17 : fr 4 (tfF 2 102) (tfH 2 102) [0, 1, 2, 3, 4, 5, 6, 7, 8, 9, 10, 11, 12, 13, 14, 15, 16, 17, 18, 19, 20, 21, 22, 5199] (tfF 2 106) (tfH 2 106) := by decide +kernel
set_option maxHeartbeats 16000000 in
theorem f2_18 : fr 4 (tfF 2 106) (tfH 2 106) [0, 1, 2, 3, 4, 5, 6, 7, 8, 9, 10, 11, 12, 13, 14, 15, 16, 17, 18, 19, 20, 21, 22, 5343] (tfF 2 110) (tfH 2 110) := by decide +kernel
end Go.Proofs.YthgpfnbajjmcdaaGreatDoor.Vw
