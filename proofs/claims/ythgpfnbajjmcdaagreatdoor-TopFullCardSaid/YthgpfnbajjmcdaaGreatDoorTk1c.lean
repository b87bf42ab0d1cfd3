/-
  gatehousetop.TopFull: pieces of its run.
-/
import Derived.Test.YthgpfnbajjmcdaaGreatDoorTf1
namespace Go.Proofs.YthgpfnbajjmcdaaGreatDoor.Vw
open LB
set_option maxHeartbeats 16000000 in
theorem f1_12 : fr 5 (tfF 1 81) (tfH 1 81) [0, 1, 2, 3, 4, 5, 6, 7, 8, 9, 10, 11, 12, 13, 14, 15, 16, 17, 18, 19, 20, 21, 22, 5605] (tfF 1 86) (tfH 1 86) := by decide +kernel
set_option maxHeartbeats 16000000 in
theorem f1_13 : fr 4 (tfF 1 86) (tfH 1 86) [0, 1, 2, 3, 4, 5, 6, 7, 8, 9, 10, 11, 12, 13, 14, 15, 16, 17, 18, 19, 20, 21, 22, 4619] (tfF 1 90) (tfH 1 90) := by decide +kernel
set_option maxHeartbeats 16000000 in
theorem f1_14 : fr 4 (tfF 1 90) (tfH 1 90) [0, 1, 2, 3, 4, 5, 6, 7, 8, 9, 10, 11, 12, 13, 14, 15, 16, 17, 18, 19, 20, 21, 22, 4763] (tfF 1 94) (tfH 1 94) := by decide +kernel
set_option maxHeartbeats 16000000 in
theorem f1_15 : fr 4 (tfF 1 94) (tfH 1 94) [0, 1, 2, 3, 4, 5, 6, 7, 8, 9, 10, 11, 12, 13, 14, 15, 16, 17, 18, 19, 20, 21, 22, 4907] (tfF 1 98) (tfH 1 98) := by decide +kernel
set_option maxHeartbeats 16000000 in
theorem f1_16 : fr 4 (tfF 1 98) (tfH 1 98) [0, 1, 2, 3, 4, 5, 6, 7, 8, 9, 10, 11, 12, 13, 14, 15, 16, 17, 18, 19, 20, 21, 22, 5051] (tfF 1 102) (tfH 1 102) := by decide +kernel
set_option maxHeartbeats 16000000 in
theorem f1_17 : fr 4 (tfF 1 102) (tfH 1 102) [0, 1, 2, 3, 4, 5, 6, 7, 8, 9, 10, 11, 12, 13, 14, 15, 16, 17, 18, 19, 20, 21, 22, 5195] (tfF 1 106) (tfH 1 106) := by decide +kernel
set_option maxHeartbeats 16000000 in
theorem f1_18 : fr 4 (tfF 1 106) (tfH 1 106) [0, 1, 2, 3, 4, 5, 6, 7, 8, 9, 10, 11, 12, 13, 14, 15, 16, 17, 18, 19, 20, 21, 22, 5339] (tfF 1 110) (tfH 1 110) := by decide +kernel
end Go.Proofs.YthgpfnbajjmcdaaGreatDoor.Vw
