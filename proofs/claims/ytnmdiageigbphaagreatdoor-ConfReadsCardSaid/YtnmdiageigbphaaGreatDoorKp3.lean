/-
  conf: the kinds of a name's values; one value read.
-/
import Derived.Test.YtnmdiageigbphaaGreatDoorKp2
namespace Go.Proofs.YtnmdiageigbphaaGreatDoor
open Go.RowKit

abbrev nLan : List UInt8 := [108, 97, 110]
abbrev nLanmac : List UInt8 := [108, 97, 110, 109, 97, 99]
abbrev nWanmac : List UInt8 := [119, 97, 110, 109, 97, 99]
abbrev nFirst : List UInt8 := [102, 105, 114, 115, 116]
abbrev nLast : List UInt8 := [108, 97, 115, 116]
abbrev nDns : List UInt8 := [100, 110, 115]
abbrev nTime : List UInt8 := [116, 105, 109, 101]
abbrev nUdp : List UInt8 := [117, 100, 112, 116, 105, 109, 101]
abbrev nTcp : List UInt8 := [116, 99, 112, 116, 105, 109, 101]
abbrev nIcmp : List UInt8 := [105, 99, 109, 112, 116, 105, 109, 101]
abbrev nLow : List UInt8 := [108, 111, 119]
abbrev nFixed : List UInt8 := [102, 105, 120, 101, 100]
abbrev nOpen : List UInt8 := [111, 112, 101, 110]
def kindsV (n : List UInt8) : List UInt8 :=
  if n = nLan then [111] else if n = nLanmac ∨ n = nWanmac then [109] else if n = nFirst ∨ n = nLast ∨ n = nDns then [97]
  else if n = nTime ∨ n = nUdp ∨ n = nTcp ∨ n = nIcmp ∨ n = nLow then [110] else if n = nFixed then [109, 97] else if n = nOpen then [112, 110, 97, 110] else []
def StP (w : World) (v : List UInt8) (e : Ending) (w' : World) : Prop := e = .returned (.string (str v)) ∧ w' = w
set_option maxRecDepth 100000 in
set_option maxHeartbeats 4000000 in
theorem kinds_any (w : World) (n : List UInt8) : Calls Tryz.prog 92 #[.string (str n)] w (StP w (kindsV n)) := by
  go_enter Tryz.func92, Tryz.ntmps92
  go_wp2_with fail
  all_goals
    go_ret
    refine ⟨?_, rfl⟩
    simp_all [kindsV, toList_str]
  all_goals rfl
end Go.Proofs.YtnmdiageigbphaaGreatDoor
