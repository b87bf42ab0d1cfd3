/-
  gatehousetop.up: pieces of its run.
-/
import Derived.Test.YtccbdaffjkdpgaaGreatDoorTu0
namespace Go.Proofs.YtccbdaffjkdpgaaGreatDoor.Vw
open LB
set_option maxHeartbeats 16000000 in
theorem up_8 : rc (cb (cb (cr lp))) UpF7 UpH7 UpS8 UpF8 UpH8 := by decide +kernel
end Go.Proofs.YtccbdaffjkdpgaaGreatDoor.Vw
