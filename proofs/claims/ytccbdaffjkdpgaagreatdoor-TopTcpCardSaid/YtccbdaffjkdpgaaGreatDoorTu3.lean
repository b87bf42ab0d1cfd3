/-
  gatehousetop.up: pieces of its run.
-/
import Derived.Test.YtccbdaffjkdpgaaGreatDoorTu0
namespace Go.Proofs.YtccbdaffjkdpgaaGreatDoor.Vw
open LB
set_option maxHeartbeats 16000000 in
theorem up_9 : rc (cb (cb (cr lp))) UpF8 UpH8 UpS9 UpF9 UpH9 := by decide +kernel
end Go.Proofs.YtccbdaffjkdpgaaGreatDoor.Vw
