/-
  gatehousetop.TopFull: pieces of its run.
-/
import Derived.Test.YthgpfnbajjmcdaaGreatDoorTf1
namespace Go.Proofs.YthgpfnbajjmcdaaGreatDoor.Vw
open LB
set_option maxHeartbeats 16000000 in
theorem f2_19 : fr 3 (tfF 2 110) (tfH 2 110) [0, 1, 2, 3, 4, 5, 6, 7, 8, 9, 10, 11, 12, 13, 14, 15, 16, 17, 18, 19, 20, 21, 22, 4068] (tfF 2 113) (tfH 2 113) := by decide +kernel
set_option maxHeartbeats 16000000 in
theorem f2_20 : fr 3 (tfF 2 113) (tfH 2 113) [0, 1, 2, 3, 4, 5, 6, 7, 8, 9, 10, 11, 12, 13, 14, 15, 16, 17, 18, 19, 20, 21, 22, 4149] (tfF 2 116) (tfH 2 116) := by decide +kernel
set_option maxHeartbeats 16000000 in
theorem f2_21 : fr 3 (tfF 2 116) (tfH 2 116) [0, 1, 2, 3, 4, 5, 6, 7, 8, 9, 10, 11, 12, 13, 14, 15, 16, 17, 18, 19, 20, 21, 22, 4230] (tfF 2 119) (tfH 2 119) := by decide +kernel
set_option maxHeartbeats 16000000 in
theorem f2_22 : fr 3 (tfF 2 119) (tfH 2 119) [0, 1, 2, 3, 4, 5, 6, 7, 8, 9, 10, 11, 12, 13, 14, 15, 16, 17, 18, 19, 20, 21, 22, 4311] (tfF 2 122) (tfH 2 122) := by decide +kernel
end Go.Proofs.YthgpfnbajjmcdaaGreatDoor.Vw
