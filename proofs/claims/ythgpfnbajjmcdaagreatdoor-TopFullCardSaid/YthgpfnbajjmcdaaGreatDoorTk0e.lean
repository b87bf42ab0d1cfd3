/-
  gatehousetop.TopFull: pieces of its run.
-/
import Derived.Test.YthgpfnbajjmcdaaGreatDoorTf1
namespace Go.Proofs.YthgpfnbajjmcdaaGreatDoor.Vw
open LB
set_option maxHeartbeats 16000000 in
theorem f0_23 : fr 2 (tfF 0 122) (tfH 0 122) [0, 1, 2, 3, 4, 5, 6, 7, 8, 9, 10, 11, 12, 13, 14, 15, 16, 17, 18, 19, 20, 21, 22, 2870] (tfF 0 124) (tfH 0 124) := by decide +kernel
set_option maxHeartbeats 16000000 in
theorem f0_24 : fr 2 (tfF 0 124) (tfH 0 124) [0, 1, 2, 3, 4, 5, 6, 7, 8, 9, 10, 11, 12, 13, 14, 15, 16, 17, 18, 19, 20, 21, 22, 2906] (tfF 0 126) (tfH 0 126) := by decide +kernel
set_option maxHeartbeats 16000000 in
theorem f0_25 : fr 2 (tfF 0 126) (tfH 0 126) [0, 1, 2, 3, 4, 5, 6, 7, 8, 9, 10, 11, 12, 13, 14, 15, 16, 17, 18, 19, 20, 21, 22, 2942] (tfF 0 128) (tfH 0 128) := by decide +kernel
end Go.Proofs.YthgpfnbajjmcdaaGreatDoor.Vw
