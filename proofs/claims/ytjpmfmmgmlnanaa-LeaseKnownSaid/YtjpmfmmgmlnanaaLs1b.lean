/-
  What a message's options tell a client, and what Get makes of it, plainly.
-/
import Derived.Test.YtjpmfmmgmlnanaaLs1
import Derived.Test.YtjpmfmmgmlnanaaOptU
namespace Go.Proofs.Ytjpmfmmgmlnanaa
open Go.RowKit

/-- What options tell: an address, a number, by their data. -/
def oB (os : List Ob) (code : Int) : List UInt8 := (fdO os code).getD []
def oK (os : List Ob) (code : Int) : Bool := (fdO os code).isSome && (oB os code).length == 4
def oA (os : List Ob) (code : Int) : Ad4 := if oK os code = true then adOf (oB os code) else ad0
def oN (os : List Ob) (code : Int) : Nat := if (fdO os code).isSome = true ∧ (oB os code).length = 4 then beN (oB os code) else 0
theorem oB_obs (l : List Op1) (code : Int) : oB (obs l) code = fdB l code := (fdB_obs l code).symm
theorem oK_obs (l : List Op1) (code : Int) : oK (obs l) code = scK l code := by unfold oK scK; rw [oB_obs, fdK_obs]
theorem oA_obs (l : List Op1) (code : Int) : oA (obs l) code = scA l code := by unfold oA scA; rw [oK_obs, oB_obs]; rfl
theorem oN_obs (l : List Op1) (code : Int) : ((oN (obs l) code : Nat) : Int) = scN l code := by unfold oN scN; rw [oB_obs, fdK_obs]

/-- Is a message an answer to this client, now? -/
def Cl.mine (c : Cl) (m : Hd) : Prop := m.op = 2 ∧ m.mac = c.m ∧ m.xid = c.xid ∧ c.state ≠ 0 ∧ c.state ≠ 3
/-- May a server let something be had? -/
def Cl.may (c : Cl) (src : Ad4) (ok : Bool) : Prop := ok = true ∧ (c.state = 2 → src = c.src) ∧ (c.state = 4 → src = c.server)
def Cl.held (c : Cl) (m : Hd) (os : List Ob) : Cl :=
  { c with addr := m.yo, mask := oA os 1, router := if 4 ≤ (oB os 3).length then adOf ((oB os 3).take 4) else ad0, server := oA os 54, til := c.now + min (oN os 51 : Int) 1000000000, had := c.now, state := 3 }
open Classical in
noncomputable def Cl.take (c : Cl) (m : Hd) (os : List Ob) : Cl × Bool × Bool :=
  if ¬ c.mine m then (c, false, false)
  else if c.state = 1 then
    if typeO os ≠ 2 ∨ oK os 54 = false ∨ m.yo = ad0 then (c, false, false) else (({ c with want := m.yo, src := oA os 54 } : Cl).start 2 c.now 4, true, false)
  else if typeO os = 6 then if c.state = 2 ∧ (oK os 54 = false ∨ oA os 54 ≠ c.src) then (c, false, false) else (c.lose, false, decide (3 ≤ c.state))
  else if typeO os = 5 ∧ oK os 51 = true ∧ 60 ≤ oN os 51 ∧ m.yo ≠ ad0 ∧ c.may (oA os 54) (oK os 54) then (c.held m os, false, (!(decide (3 ≤ c.state)) || !adeq c.addr m.yo))
  else (c, false, false)
end Go.Proofs.Ytjpmfmmgmlnanaa
