/-
  gatehousetop.TopFull: pieces of its run.
-/
import Derived.Test.YthgpfnbajjmcdaaGreatDoorTf1
namespace Go.Proofs.YthgpfnbajjmcdaaGreatDoor.Vw
open LB
set_option maxHeartbeats 16000000 in
theorem f2_a : fp (cl (cr (cr fuB))) .n tg2F0 [] [] tg2F1 [] := by decide +kernel
set_option maxHeartbeats 16000000 in
theorem f2_b : fp (cl (cr (cr (cr fuB)))) .n tg2F1 [] [0, 1, 2, 3, 4, 5, 6, 7, 8, 9, 10, 11, 12, 13, 14, 15, 16, 17, 18, 19, 20, 21] tg2F2 UpH13 := by decide +kernel
set_option maxHeartbeats 16000000 in
theorem f2_c : fp (cl (cr (cr (cr (cr fuB))))) .n tg2F2 UpH13 [0, 1, 2, 3, 4, 5, 6, 7, 8, 9, 10, 11, 12, 13, 14, 15, 16, 17, 18, 19, 20, 21] tg2F3 UpH13 := by decide +kernel
set_option maxHeartbeats 16000000 in
theorem f2_d : fp (cl (cl fuL)) .n tg2F3 UpH13 [0, 1, 2, 3, 4, 5, 6, 7, 8, 9, 10, 11, 12, 13, 14, 15, 16, 17, 18, 19, 20, 21] (tfF0 2) UpH13 := by decide +kernel
set_option maxHeartbeats 16000000 in
theorem f2_x : fp fuR (.x 0) (tfF 2 128) (tfH 2 128) [0, 1, 2, 3, 4, 5, 6, 7, 8, 9, 10, 11, 12, 13, 14, 15, 16, 17, 18, 19, 20, 21, 22, 23] tg2FX (tfH 2 128) := by decide +kernel
set_option maxHeartbeats 16000000 in
theorem f2_e : fp (cr fuL) .r tg2FX (tfH 2 128) [0, 1, 2, 3, 4, 5, 6, 7, 8, 9, 10, 11, 12, 13, 14, 15, 16, 17, 18, 19, 20, 21, 22, 23, 535, 2645, 2647, 2650, 2667, 2668, 3180] tg2FE tg2HE := by decide +kernel
set_option maxHeartbeats 16000000 in
theorem f2_0 : fr 11 (tfF0 2) UpH13 [0, 1, 2, 3, 4, 5, 6, 7, 8, 9, 10, 11, 12, 13, 14, 15, 16, 17, 18, 19, 20, 21, 362, 4904] (tfF 2 11) (tfH 2 11) := by decide +kernel
set_option maxHeartbeats 16000000 in
theorem f2_1 : fr 9 (tfF 2 11) (tfH 2 11) [0, 1, 2, 3, 4, 5, 6, 7, 8, 9, 10, 11, 12, 13, 14, 15, 16, 17, 18, 19, 20, 21, 22, 4696] (tfF 2 20) (tfH 2 20) := by decide +kernel
set_option maxHeartbeats 16000000 in
theorem f2_2 : fr 8 (tfF 2 20) (tfH 2 20) [0, 1, 2, 3, 4, 5, 6, 7, 8, 9, 10, 11, 12, 13, 14, 15, 16, 17, 18, 19, 20, 21, 22, 4773] (tfF 2 28) (tfH 2 28) := by decide +kernel
set_option maxHeartbeats 16000000 in
theorem f2_3 : fr 8 (tfF 2 28) (tfH 2 28) [0, 1, 2, 3, 4, 5, 6, 7, 8, 9, 10, 11, 12, 13, 14, 15, 16, 17, 18, 19, 20, 21, 22, 5349] (tfF 2 36) (tfH 2 36) := by decide +kernel
set_option maxHeartbeats 16000000 in
theorem f2_4 : fr 7 (tfF 2 36) (tfH 2 36) [0, 1, 2, 3, 4, 5, 6, 7, 8, 9, 10, 11, 12, 13, 14, 15, 16, 17, 18, 19, 20, 21, 22, 5136] (tfF 2 43) (tfH 2 43) := by decide +kernel
end Go.Proofs.YthgpfnbajjmcdaaGreatDoor.Vw
