/-
  gatehousetop.TopFull: pieces of its run.
-/
import Derived.Test.YthgpfnbajjmcdaaGreatDoorTf1
namespace Go.Proofs.YthgpfnbajjmcdaaGreatDoor.Vw
open LB
set_option maxHeartbeats 16000000 in
theorem f0_12 : fr 5 (tfF 0 81) (tfH 0 81) [0, 1, 2, 3, 4, 5, 6, 7, 8, 9, 10, 11, 12, 13, 14, 15, 16, 17, 18, 19, 20, 21, 22, 5600] (tfF 0 86) (tfH 0 86) := by decide +kernel
set_option maxHeartbeats 16000000 in
theorem f0_13 : fr 4 (tfF 0 86) (tfH 0 86) [0, 1, 2, 3, 4, 5, 6, 7, 8, 9, 10, 11, 12, 13, 14, 15, 16, 17, 18, 19, 20, 21, 22, 4615] (tfF 0 90) (tfH 0 90) := by decide +kernel
set_option maxHeartbeats 16000000 in
theorem f0_14 : fr 4 (tfF 0 90) (tfH 0 90) [0, 1, 2, 3, 4, 5, 6, 7, 8, 9, 10, 11, 12, 13, 14, 15, 16, 17, 18, 19, 20, 21, 22, 4759] (tfF 0 94) (tfH 0 94) := by decide +kernel
set_option maxHeartbeats 16000000 in
theorem f0_15 : fr 4 (tfF 0 94) (tfH 0 94) [0, 1, 2, 3, 4, 5, 6, 7, 8, 9, 10, 11, 12, 13, 14, 15, 16, 17, 18, 19, 20, 21, 22, 4903] (tfF 0 98) (tfH 0 98) := by decide +kernel
set_option maxHeartbeats 16000000 in
theorem f0_16 : fr 4 (tfF 0 98) (tfH 0 98) [0, 1, 2, 3, 4, 5, 6, 7, 8, 9, 10, 11, 12, 13, 14, 15, 16, 17, 18, 19, 20, 21, 22, 5047] (tfF 0 102) (tfH 0 102) := by decide +kernel
set_option maxHeartbeats 16000000 in
theorem f0_17 : fr 4 (tfF 0 102) (tfH 0 102) [0, 1, 2, 3, 4, 5, 6, 7, 8, 9, 10, 11, 12, 13, 14, 15, 16, 17, 18, 19, 20, 21, 22, 5191] (tfF 0 106) (tfH 0 106) := by decide +kernel
set_option maxHeartbeats 16000000 in
theorem f0_18 : fr 4 (tfF 0 106) (tfH 0 106) [0, 1, 2, 3, 4, 5, 6, 7, 8, 9, 10, 11, 12, 13, 14, 15, 16, 17, 18, 19, 20, 21, 22, 5335] (tfF 0 110) (tfH 0 110) := by decide +kernel
end Go.Proofs.YthgpfnbajjmcdaaGreatDoor.Vw
