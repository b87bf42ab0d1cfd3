/-
  gatehousetop.up: pieces of its run.
-/
import Derived.Test.YtccbdaffjkdpgaaGreatDoorTu0
namespace Go.Proofs.YtccbdaffjkdpgaaGreatDoor.Vw
open LB
set_option maxHeartbeats 16000000 in
theorem up_1 : pc (cl upB) .n UpF0 UpH0 UpS1 UpF1 UpH1 := by decide +kernel
set_option maxHeartbeats 16000000 in
theorem up_2 : pc (cl (cr upB)) .n UpF1 UpH1 UpS2 UpF2 UpH2 := by decide +kernel
set_option maxHeartbeats 16000000 in
theorem up_3 : pc (cl (cr (cr upB))) .n UpF2 UpH2 UpS3 UpF3 UpH3 := by decide +kernel
set_option maxHeartbeats 16000000 in
theorem up_4 : pc (cl (cr (cr (cr upB)))) .n UpF3 UpH3 UpS4 UpF4 UpH4 := by decide +kernel
set_option maxHeartbeats 16000000 in
theorem up_5 : pc (cl (cr (cr (cr (cr upB))))) .n UpF4 UpH4 UpS5 UpF5 UpH5 := by decide +kernel
set_option maxHeartbeats 16000000 in
theorem up_6 : pc (cl (cr (cr (cr (cr (cr upB)))))) .n UpF5 UpH5 UpS6 UpF6 UpH6 := by decide +kernel
set_option maxHeartbeats 16000000 in
theorem up_7 : pc (cl lp) .n UpF6 UpH6 UpS7 UpF7 UpH7 := by decide +kernel
set_option maxHeartbeats 16000000 in
theorem up_11 : pc (cb (cb (cr lp))) (.x 0) UpF10 UpH10 UpS11 UpF11 UpH11 := by decide +kernel
set_option maxHeartbeats 16000000 in
theorem up_12 : pc (cl (cr (cr (cr (cr (cr (cr (cr upB)))))))) .n UpF11 UpH11 UpS12 UpF12 UpH12 := by decide +kernel
set_option maxHeartbeats 16000000 in
theorem up_13 : pc (cr (cr (cr (cr (cr (cr (cr (cr upB)))))))) .r UpF12 UpH12 UpS13 UpF13 UpH13 := by decide +kernel
end Go.Proofs.YtccbdaffjkdpgaaGreatDoor.Vw
