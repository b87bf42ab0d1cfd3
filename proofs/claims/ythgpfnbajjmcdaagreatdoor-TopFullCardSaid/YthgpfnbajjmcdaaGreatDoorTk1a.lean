/-
  gatehousetop.TopFull: pieces of its run.
-/
import Derived.Test.YthgpfnbajjmcdaaGreatDoorTf1
namespace Go.Proofs.YthgpfnbajjmcdaaGreatDoor.Vw
open LB
set_option maxHeartbeats 16000000 in
theorem f1_a : fp (cl (cr (cr fuB))) .n tg1F0 [] [] tg1F1 [] := by decide +kernel
set_option maxHeartbeats 16000000 in
theorem f1_b : fp (cl (cr (cr (cr fuB)))) .n tg1F1 [] [0, 1, 2, 3, 4, 5, 6, 7, 8, 9, 10, 11, 12, 13, 14, 15, 16, 17, 18, 19, 20, 21] tg1F2 UpH13 := by decide +kernel
set_option maxHeartbeats 16000000 in
theorem f1_c : fp (cl (cr (cr (cr (cr fuB))))) .n tg1F2 UpH13 [0, 1, 2, 3, 4, 5, 6, 7, 8, 9, 10, 11, 12, 13, 14, 15, 16, 17, 18, 19, 20, 21] tg1F3 UpH13 := by decide +kernel
set_option maxHeartbeats 16000000 in
theorem f1_d : fp (cl (cl fuL)) .n tg1F3 UpH13 [0, 1, 2, 3, 4, 5, 6, 7, 8, 9, 10, 11, 12, 13, 14, 15, 16, 17, 18, 19, 20, 21] (tfF0 1) UpH13 := by decide +kernel
set_option maxHeartbeats 16000000 in
theorem f1_x : fp fuR (.x 0) (tfF 1 128) (tfH 1 128) [0, 1, 2, 3, 4, 5, 6, 7, 8, 9, 10, 11, 12, 13, 14, 15, 16, 17, 18, 19, 20, 21, 22, 23] tg1FX (tfH 1 128) := by decide +kernel
set_option maxHeartbeats 16000000 in
theorem f1_e : fp (cr fuL) .r tg1FX (tfH 1 128) [0, 1, 2, 3, 4, 5, 6, 7, 8, 9, 10, 11, 12, 13, 14, 15, 16, 17, 18, 19, 20, 21, 22, 23, 535, 2643, 2645, 2648, 2665, 2666, 3178] tg1FE tg1HE := by decide +kernel
set_option maxHeartbeats 16000000 in
theorem f1_0 : fr 11 (tfF0 1) UpH13 [0, 1, 2, 3, 4, 5, 6, 7, 8, 9, 10, 11, 12, 13, 14, 15, 16, 17, 18, 19, 20, 21, 361, 4893] (tfF 1 11) (tfH 1 11) := by decide +kernel
set_option maxHeartbeats 16000000 in
theorem f1_1 : fr 9 (tfF 1 11) (tfH 1 11) [0, 1, 2, 3, 4, 5, 6, 7, 8, 9, 10, 11, 12, 13, 14, 15, 16, 17, 18, 19, 20, 21, 22, 4687] (tfF 1 20) (tfH 1 20) := by decide +kernel
set_option maxHeartbeats 16000000 in
theorem f1_2 : fr 8 (tfF 1 20) (tfH 1 20) [0, 1, 2, 3, 4, 5, 6, 7, 8, 9, 10, 11, 12, 13, 14, 15, 16, 17, 18, 19, 20, 21, 22, 4765] (tfF 1 28) (tfH 1 28) := by decide +kernel
set_option maxHeartbeats 16000000 in
theorem f1_3 : fr 8 (tfF 1 28) (tfH 1 28) [0, 1, 2, 3, 4, 5, 6, 7, 8, 9, 10, 11, 12, 13, 14, 15, 16, 17, 18, 19, 20, 21, 22, 5341] (tfF 1 36) (tfH 1 36) := by decide +kernel
set_option maxHeartbeats 16000000 in
theorem f1_4 : fr 7 (tfF 1 36) (tfH 1 36) [0, 1, 2, 3, 4, 5, 6, 7, 8, 9, 10, 11, 12, 13, 14, 15, 16, 17, 18, 19, 20, 21, 22, 5129] (tfF 1 43) (tfH 1 43) := by decide +kernel
end Go.Proofs.YthgpfnbajjmcdaaGreatDoor.Vw
