/-
  gatehousetop.TopFull: pieces of its run.
-/
import Derived.Test.YthgpfnbajjmcdaaGreatDoorTf1
namespace Go.Proofs.YthgpfnbajjmcdaaGreatDoor.Vw
open LB
set_option maxHeartbeats 16000000 in
theorem f1_23 : fr 2 (tfF 1 122) (tfH 1 122) [0, 1, 2, 3, 4, 5, 6, 7, 8, 9, 10, 11, 12, 13, 14, 15, 16, 17, 18, 19, 20, 21, 22, 2872] (tfF 1 124) (tfH 1 124) := by decide +kernel
set_option maxHeartbeats 16000000 in
theorem f1_24 : fr 2 (tfF 1 124) (tfH 1 124) [0, 1, 2, 3, 4, 5, 6, 7, 8, 9, 10, 11, 12, 13, 14, 15, 16, 17, 18, 19, 20, 21, 22, 2908] (tfF 1 126) (tfH 1 126) := by decide +kernel
set_option maxHeartbeats 16000000 in
theorem f1_25 : fr 2 (tfF 1 126) (tfH 1 126) [0, 1, 2, 3, 4, 5, 6, 7, 8, 9, 10, 11, 12, 13, 14, 15, 16, 17, 18, 19, 20, 21, 22, 2944] (tfF 1 128) (tfH 1 128) := by decide +kernel
end Go.Proofs.YthgpfnbajjmcdaaGreatDoor.Vw
