/-
  gatehousetop.TopFull: pieces of its run.
-/
import Derived.Test.YthgpfnbajjmcdaaGreatDoorTf1
namespace Go.Proofs.YthgpfnbajjmcdaaGreatDoor.Vw
open LB
set_option maxHeartbeats 16000000 in
theorem f0_a : fp (cl (cr (cr fuB))) .n tg0F0 [] [] tg0F1 [] := by decide +kernel
set_option maxHeartbeats 16000000 in
theorem f0_b : fp (cl (cr (cr (cr fuB)))) .n tg0F1 [] [0, 1, 2, 3, 4, 5, 6, 7, 8, 9, 10, 11, 12, 13, 14, 15, 16, 17, 18, 19, 20, 21] tg0F2 UpH13 := by decide +kernel
set_option maxHeartbeats 16000000 in
theorem f0_c : fp (cl (cr (cr (cr (cr fuB))))) .n tg0F2 UpH13 [0, 1, 2, 3, 4, 5, 6, 7, 8, 9, 10, 11, 12, 13, 14, 15, 16, 17, 18, 19, 20, 21] tg0F3 UpH13 := by decide +kernel
set_option maxHeartbeats 16000000 in
theorem f0_d : fp (cl (cl fuL)) .n tg0F3 UpH13 [0, 1, 2, 3, 4, 5, 6, 7, 8, 9, 10, 11, 12, 13, 14, 15, 16, 17, 18, 19, 20, 21] (tfF0 0) UpH13 := by decide +kernel
set_option maxHeartbeats 16000000 in
theorem f0_x : fp fuR (.x 0) (tfF 0 128) (tfH 0 128) [0, 1, 2, 3, 4, 5, 6, 7, 8, 9, 10, 11, 12, 13, 14, 15, 16, 17, 18, 19, 20, 21, 22, 23] tg0FX (tfH 0 128) := by decide +kernel
set_option maxHeartbeats 16000000 in
theorem f0_e : fp (cr fuL) .r tg0FX (tfH 0 128) [0, 1, 2, 3, 4, 5, 6, 7, 8, 9, 10, 11, 12, 13, 14, 15, 16, 17, 18, 19, 20, 21, 22, 23, 535, 2641, 2643, 2646, 2663, 2664, 3176] tg0FE tg0HE := by decide +kernel
set_option maxHeartbeats 16000000 in
theorem f0_0 : fr 11 (tfF0 0) UpH13 [0, 1, 2, 3, 4, 5, 6, 7, 8, 9, 10, 11, 12, 13, 14, 15, 16, 17, 18, 19, 20, 21, 360, 4882] (tfF 0 11) (tfH 0 11) := by decide +kernel
set_option maxHeartbeats 16000000 in
theorem f0_1 : fr 9 (tfF 0 11) (tfH 0 11) [0, 1, 2, 3, 4, 5, 6, 7, 8, 9, 10, 11, 12, 13, 14, 15, 16, 17, 18, 19, 20, 21, 22, 4678] (tfF 0 20) (tfH 0 20) := by decide +kernel
set_option maxHeartbeats 16000000 in
theorem f0_2 : fr 8 (tfF 0 20) (tfH 0 20) [0, 1, 2, 3, 4, 5, 6, 7, 8, 9, 10, 11, 12, 13, 14, 15, 16, 17, 18, 19, 20, 21, 22, 4757] (tfF 0 28) (tfH 0 28) := by decide +kernel
set_option maxHeartbeats 16000000 in
theorem f0_3 : fr 8 (tfF 0 28) (tfH 0 28) [0, 1, 2, 3, 4, 5, 6, 7, 8, 9, 10, 11, 12, 13, 14, 15, 16, 17, 18, 19, 20, 21, 22, 5333] (tfF 0 36) (tfH 0 36) := by decide +kernel
set_option maxHeartbeats 16000000 in
theorem f0_4 : fr 7 (tfF 0 36) (tfH 0 36) [0, 1, 2, 3, 4, 5, 6, 7, 8, 9, 10, 11, 12, 13, 14, 15, 16, 17, 18, 19, 20, 21, 22, 5122] (tfF 0 43) (tfH 0 43) := by decide +kernel
end Go.Proofs.YthgpfnbajjmcdaaGreatDoor.Vw
