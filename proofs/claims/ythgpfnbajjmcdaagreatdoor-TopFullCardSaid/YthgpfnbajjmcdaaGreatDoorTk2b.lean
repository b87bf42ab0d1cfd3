/-
  gatehousetop.TopFull: pieces of its run.
-/
import Derived.Test.YthgpfnbajjmcdaaGreatDoorTf1
namespace Go.Proofs.YthgpfnbajjmcdaaGreatDoor.Vw
open LB
set_option maxHeartbeats 16000000 in
theorem f2_5 : fr 6 (tfF 2 43) (tfH 2 43) [0, 1, 2, 3, 4, 5, 6, 7, 8, 9, 10, 11, 12, 13, 14, 15, 16, 17, 18, 19, 20, 21, 22, 4734] (tfF 2 49) (tfH 2 49) := by decide +kernel
set_option maxHeartbeats 16000000 in
theorem f2_6 : fr 6 (tfF 2 49) (tfH 2 49) [0, 1, 2, 3, 4, 5, 6, 7, 8, 9, 10, 11, 12, 13, 14, 15, 16, 17, 18, 19, 20, 21, 22, 5058] (tfF 2 55) (tfH 2 55) := by decide +kernel
set_option maxHeartbeats 16000000 in
theorem f2_7 : fr 6 (tfF 2 55) (tfH 2 55) [0, 1, 2, 3, 4, 5, 6, 7, 8, 9, 10, 11, 12, 13, 14, 15, 16, 17, 18, 19, 20, 21, 22, 5382] (tfF 2 61) (tfH 2 61) := by decide +kernel
set_option maxHeartbeats 16000000 in
theorem f2_8 : fr 5 (tfF 2 61) (tfH 2 61) [0, 1, 2, 3, 4, 5, 6, 7, 8, 9, 10, 11, 12, 13, 14, 15, 16, 17, 18, 19, 20, 21, 22, 4710] (tfF 2 66) (tfH 2 66) := by decide +kernel
set_option maxHeartbeats 16000000 in
theorem f2_9 : fr 5 (tfF 2 66) (tfH 2 66) [0, 1, 2, 3, 4, 5, 6, 7, 8, 9, 10, 11, 12, 13, 14, 15, 16, 17, 18, 19, 20, 21, 22, 4935] (tfF 2 71) (tfH 2 71) := by decide +kernel
set_option maxHeartbeats 16000000 in
theorem f2_10 : fr 5 (tfF 2 71) (tfH 2 71) [0, 1, 2, 3, 4, 5, 6, 7, 8, 9, 10, 11, 12, 13, 14, 15, 16, 17, 18, 19, 20, 21, 22, 5160] (tfF 2 76) (tfH 2 76) := by decide +kernel
set_option maxHeartbeats 16000000 in
theorem f2_11 : fr 5 (tfF 2 76) (tfH 2 76) [0, 1, 2, 3, 4, 5, 6, 7, 8, 9, 10, 11, 12, 13, 14, 15, 16, 17, 18, 19, 20, 21, 22, 5385] (tfF 2 81) (tfH 2 81) := by decide +kernel
end Go.Proofs.YthgpfnbajjmcdaaGreatDoor.Vw
