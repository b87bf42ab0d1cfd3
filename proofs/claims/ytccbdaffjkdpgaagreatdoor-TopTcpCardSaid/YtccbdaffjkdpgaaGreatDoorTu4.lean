/-
  gatehousetop.up: pieces of its run.
-/
import Derived.Test.YtccbdaffjkdpgaaGreatDoorTu0
namespace Go.Proofs.YtccbdaffjkdpgaaGreatDoor.Vw
open LB
set_option maxHeartbeats 16000000 in
theorem up_10 : rc (cb (cb (cr lp))) UpF9 UpH9 UpS10 UpF10 UpH10 := by decide +kernel
end Go.Proofs.YtccbdaffjkdpgaaGreatDoor.Vw
