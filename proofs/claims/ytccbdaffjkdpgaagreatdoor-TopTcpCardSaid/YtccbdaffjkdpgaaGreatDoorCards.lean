/-
  DERIVED. GIVEN WITH THE SEED: THE CARDS: each row of YtccbdaffjkdpgaaGreatDoorRows.lean that lists a variable, with what it lists TIED to the program's text (the seventh form; the later family's looks); each row that meets fmt, with fmt's text TOLD by the authors' own Lean function (tested against real Go, not proved from fmt's source: count such statements apart). THE CARD IS WHAT COUNTS. Prove the row's statement (the work); the ties are given (YtccbdaffjkdpgaaGreatDoorTie.lean); close each card by the builder's one call (the guide's Derived/Test/ToyasCard.lean, 'card_holds'). Laid BY PROGRAM, IN A SANDBOX (cutbox-door.mjs). By AI agents, Wed Nov 11 2026. No macro, syntax, notation, axiom, sorry.
-/
import Derived.Test.YtccbdaffjkdpgaaGreatDoorRows
import GoSem.ClaimSeven
namespace Go.Proofs.YtccbdaffjkdpgaaGreatDoor
namespace Rows

/-- THE TIED CARD OF 'gatehousetop.TopTcp'. -/
def topTcpCard : Claim7 := { stood := { row := topTcpRow, standIns := [], harness := (true, "a121b46bd6636f7286d750c5149e3ae874e2047678e225cf336fe77fc5fe2d7b"), looks := true }, kinds := [], alts := [], laidByText := true, laidKinds := [.pinned, .data, .sentinel, .sentinel, .data, .data, .data], laidTests := true, laidLooks := .later }
def TopTcpCardSaid : Prop := Claim7.holds Tryz.pinned (.plain (OpenSpec.ofChange topTcpSpec)) topTcpCard

/-- THE SECOND FORM's CARD OF 'gatehousetop.TopTcp'. -/
def topTcpUptoCard : Claim7 := { stood := { row := topTcpUptoRow, standIns := [], harness := (true, "a121b46bd6636f7286d750c5149e3ae874e2047678e225cf336fe77fc5fe2d7b"), looks := true }, kinds := [], alts := [], laidByText := true, laidKinds := [.pinned, .data, .sentinel, .sentinel, .data, .data, .data], laidTests := true, laidLooks := .later }
def TopTcpUptoCardSaid : Prop := Claim7.holds Tryz.pinned (.plain (OpenSpec.upto topTcpSpec)) topTcpUptoCard
end Rows
end Go.Proofs.YtccbdaffjkdpgaaGreatDoor
