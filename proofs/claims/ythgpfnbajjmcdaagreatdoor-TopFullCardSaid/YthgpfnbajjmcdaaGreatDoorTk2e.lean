/-
  gatehousetop.TopFull: pieces of its run.
-/
import Derived.Test.YthgpfnbajjmcdaaGreatDoorTf1
namespace Go.Proofs.YthgpfnbajjmcdaaGreatDoor.Vw
open LB
set_option maxHeartbeats 16000000 in
theorem f2_23 : fr 2 (tfF 2 122) (tfH 2 122) [0, 1, 2, 3, 4, 5, 6, 7, 8, 9, 10, 11, 12, 13, 14, 15, 16, 17, 18, 19, 20, 21, 22, 2874] (tfF 2 124) (tfH 2 124) := by decide +kernel
set_option maxHeartbeats 16000000 in
theorem f2_24 : fr 2 (tfF 2 124) (tfH 2 124) [0, 1, 2, 3, 4, 5, 6, 7, 8, 9, 10, 11, 12, 13, 14, 15, 16, 17, 18, 19, 20, 21, 22, 2910] (tfF 2 126) (tfH 2 126) := by decide +kernel
set_option maxHeartbeats 16000000 in
theorem f2_25 : fr 2 (tfF 2 126) (tfH 2 126) [0, 1, 2, 3, 4, 5, 6, 7, 8, 9, 10, 11, 12, 13, 14, 15, 16, 17, 18, 19, 20, 21, 22, 2946] (tfF 2 128) (tfH 2 128) := by decide +kernel
end Go.Proofs.YthgpfnbajjmcdaaGreatDoor.Vw
