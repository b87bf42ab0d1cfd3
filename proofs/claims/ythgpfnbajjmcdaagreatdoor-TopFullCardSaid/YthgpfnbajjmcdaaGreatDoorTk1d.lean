/-
  gatehousetop.TopFull: pieces of its run.
-/
import Derived.Test.YthgpfnbajjmcdaaGreatDoorTf1
namespace Go.Proofs.YthgpfnbajjmcdaaGreatDoor.Vw
open LB
set_option maxHeartbeats 16000000 in
theorem f1_19 : fr 3 (tfF 1 110) (tfH 1 110) [0, 1, 2, 3, 4, 5, 6, 7, 8, 9, 10, 11, 12, 13, 14, 15, 16, 17, 18, 19, 20, 21, 22, 4065] (tfF 1 113) (tfH 1 113) := by decide +kernel
set_option maxHeartbeats 16000000 in
theorem f1_20 : fr 3 (tfF 1 113) (tfH 1 113) [0, 1, 2, 3, 4, 5, 6, 7, 8, 9, 10, 11, 12, 13, 14, 15, 16, 17, 18, 19, 20, 21, 22, 4146] (tfF 1 116) (tfH 1 116) := by decide +kernel
set_option maxHeartbeats 16000000 in
theorem f1_21 : fr 3 (tfF 1 116) (tfH 1 116) [0, 1, 2, 3, 4, 5, 6, 7, 8, 9, 10, 11, 12, 13, 14, 15, 16, 17, 18, 19, 20, 21, 22, 4227] (tfF 1 119) (tfH 1 119) := by decide +kernel
set_option maxHeartbeats 16000000 in
theorem f1_22 : fr 3 (tfF 1 119) (tfH 1 119) [0, 1, 2, 3, 4, 5, 6, 7, 8, 9, 10, 11, 12, 13, 14, 15, 16, 17, 18, 19, 20, 21, 22, 4308] (tfF 1 122) (tfH 1 122) := by decide +kernel
end Go.Proofs.YthgpfnbajjmcdaaGreatDoor.Vw
