/-
  gatehousetop.TopFull: pieces of its run.
-/
import Derived.Test.YthgpfnbajjmcdaaGreatDoorTf1
namespace Go.Proofs.YthgpfnbajjmcdaaGreatDoor.Vw
open LB
set_option maxHeartbeats 16000000 in
theorem f0_19 : fr 3 (tfF 0 110) (tfH 0 110) [0, 1, 2, 3, 4, 5, 6, 7, 8, 9, 10, 11, 12, 13, 14, 15, 16, 17, 18, 19, 20, 21, 22, 4062] (tfF 0 113) (tfH 0 113) := by decide +kernel
set_option maxHeartbeats 16000000 in
theorem f0_20 : fr 3 (tfF 0 113) (tfH 0 113) [0, 1, 2, 3, 4, 5, 6, 7, 8, 9, 10, 11, 12, 13, 14, 15, 16, 17, 18, 19, 20, 21, 22, 4143] (tfF 0 116) (tfH 0 116) := by decide +kernel
set_option maxHeartbeats 16000000 in
theorem f0_21 : fr 3 (tfF 0 116) (tfH 0 116) [0, 1, 2, 3, 4, 5, 6, 7, 8, 9, 10, 11, 12, 13, 14, 15, 16, 17, 18, 19, 20, 21, 22, 4224] (tfF 0 119) (tfH 0 119) := by decide +kernel
set_option maxHeartbeats 16000000 in
theorem f0_22 : fr 3 (tfF 0 119) (tfH 0 119) [0, 1, 2, 3, 4, 5, 6, 7, 8, 9, 10, 11, 12, 13, 14, 15, 16, 17, 18, 19, 20, 21, 22, 4305] (tfF 0 122) (tfH 0 122) := by decide +kernel
end Go.Proofs.YthgpfnbajjmcdaaGreatDoor.Vw
