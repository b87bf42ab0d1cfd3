/-
  DERIVED. GIVEN WITH THE SEED: THE CARDS: each row of YtnmdiageigbphaaDoorRows.lean that lists a variable, with what it lists TIED to the program's text (the seventh form; the later family's looks); each row that meets fmt, with fmt's text TOLD by the authors' own Lean function (tested against real Go, not proved from fmt's source: count such statements apart). THE CARD IS WHAT COUNTS. Prove the row's statement (the work); the ties are given (YtnmdiageigbphaaDoorTie.lean); close each card by the builder's one call (the guide's Derived/Test/ToyasCard.lean, 'card_holds'). Laid BY PROGRAM, IN A SANDBOX (cutbox-door.mjs). By AI agents, Wed Nov 11 2026. No macro, syntax, notation, axiom, sorry.
-/
import Derived.Test.YtnmdiageigbphaaDoorRows
import GoSem.ClaimSeven
namespace Go.Proofs.YtnmdiageigbphaaDoor
namespace Rows

/-- THE TIED CARD OF 'gatehouselaw10.ConfOrder'. -/
def confOrderCard : Claim7 := { stood := { row := confOrderRow, standIns := [], harness := (true, "3fc5c7376e1bc6e90967f6ffa3ef63b0375e4ca9d5f2d0cc8ecc7a7c84467328"), looks := true }, kinds := [], alts := [], laidByText := true, laidKinds := [.data, .pinned], laidTests := true, laidLooks := .later }
def ConfOrderCardSaid : Prop := Claim7.holds Tryd.pinned (.plain (OpenSpec.ofChange confOrderSpec)) confOrderCard

/-- THE TIED CARD OF 'gatehouselaw10.ConfBounds'. -/
def confBoundsCard : Claim7 := { stood := { row := confBoundsRow, standIns := [], harness := (true, "3fc5c7376e1bc6e90967f6ffa3ef63b0375e4ca9d5f2d0cc8ecc7a7c84467328"), looks := true }, kinds := [], alts := [], laidByText := true, laidKinds := [.data, .pinned], laidTests := true, laidLooks := .later }
def ConfBoundsCardSaid : Prop := Claim7.holds Tryd.pinned (.plain (OpenSpec.ofChange confBoundsSpec)) confBoundsCard

/-- THE TIED CARD OF 'gatehouselaw10.ConfLines'. -/
def confLinesCard : Claim7 := { stood := { row := confLinesRow, standIns := [], harness := (true, "3fc5c7376e1bc6e90967f6ffa3ef63b0375e4ca9d5f2d0cc8ecc7a7c84467328"), looks := true }, kinds := [], alts := [], laidByText := true, laidKinds := [.data, .pinned], laidTests := true, laidLooks := .later }
def ConfLinesCardSaid : Prop := Claim7.holds Tryd.pinned (.plain (OpenSpec.ofChange confLinesSpec)) confLinesCard

/-- THE TIED CARD OF 'gatehouselaw10.ConfTwice'. -/
def confTwiceCard : Claim7 := { stood := { row := confTwiceRow, standIns := [], harness := (true, "3fc5c7376e1bc6e90967f6ffa3ef63b0375e4ca9d5f2d0cc8ecc7a7c84467328"), looks := true }, kinds := [], alts := [], laidByText := true, laidKinds := [.data, .pinned], laidTests := true, laidLooks := .later }
def ConfTwiceCardSaid : Prop := Claim7.holds Tryd.pinned (.plain (OpenSpec.ofChange confTwiceSpec)) confTwiceCard

/-- THE TIED CARD OF 'gatehouselaw10.ConfNets'. -/
def confNetsCard : Claim7 := { stood := { row := confNetsRow, standIns := [], harness := (true, "3fc5c7376e1bc6e90967f6ffa3ef63b0375e4ca9d5f2d0cc8ecc7a7c84467328"), looks := true }, kinds := [], alts := [], laidByText := true, laidKinds := [.data, .data, .data, .data, .pinned], laidTests := true, laidLooks := .later }
def ConfNetsCardSaid : Prop := Claim7.holds Tryd.pinned (.plain (OpenSpec.ofChange confNetsSpec)) confNetsCard

/-- THE SECOND FORM's CARD OF 'gatehouselaw10.ConfOrder'. -/
def confOrderUptoCard : Claim7 := { stood := { row := confOrderUptoRow, standIns := [], harness := (true, "3fc5c7376e1bc6e90967f6ffa3ef63b0375e4ca9d5f2d0cc8ecc7a7c84467328"), looks := true }, kinds := [], alts := [], laidByText := true, laidKinds := [.data, .pinned], laidTests := true, laidLooks := .later }
def ConfOrderUptoCardSaid : Prop := Claim7.holds Tryd.pinned (.plain (OpenSpec.upto confOrderSpec)) confOrderUptoCard

/-- THE SECOND FORM's CARD OF 'gatehouselaw10.ConfBounds'. -/
def confBoundsUptoCard : Claim7 := { stood := { row := confBoundsUptoRow, standIns := [], harness := (true, "3fc5c7376e1bc6e90967f6ffa3ef63b0375e4ca9d5f2d0cc8ecc7a7c84467328"), looks := true }, kinds := [], alts := [], laidByText := true, laidKinds := [.data, .pinned], laidTests := true, laidLooks := .later }
def ConfBoundsUptoCardSaid : Prop := Claim7.holds Tryd.pinned (.plain (OpenSpec.upto confBoundsSpec)) confBoundsUptoCard

/-- THE SECOND FORM's CARD OF 'gatehouselaw10.ConfLines'. -/
def confLinesUptoCard : Claim7 := { stood := { row := confLinesUptoRow, standIns := [], harness := (true, "3fc5c7376e1bc6e90967f6ffa3ef63b0375e4ca9d5f2d0cc8ecc7a7c84467328"), looks := true }, kinds := [], alts := [], laidByText := true, laidKinds := [.data, .pinned], laidTests := true, laidLooks := .later }
def ConfLinesUptoCardSaid : Prop := Claim7.holds Tryd.pinned (.plain (OpenSpec.upto confLinesSpec)) confLinesUptoCard

/-- THE SECOND FORM's CARD OF 'gatehouselaw10.ConfTwice'. -/
def confTwiceUptoCard : Claim7 := { stood := { row := confTwiceUptoRow, standIns := [], harness := (true, "3fc5c7376e1bc6e90967f6ffa3ef63b0375e4ca9d5f2d0cc8ecc7a7c84467328"), looks := true }, kinds := [], alts := [], laidByText := true, laidKinds := [.data, .pinned], laidTests := true, laidLooks := .later }
def ConfTwiceUptoCardSaid : Prop := Claim7.holds Tryd.pinned (.plain (OpenSpec.upto confTwiceSpec)) confTwiceUptoCard

/-- THE SECOND FORM's CARD OF 'gatehouselaw10.ConfNets'. -/
def confNetsUptoCard : Claim7 := { stood := { row := confNetsUptoRow, standIns := [], harness := (true, "3fc5c7376e1bc6e90967f6ffa3ef63b0375e4ca9d5f2d0cc8ecc7a7c84467328"), looks := true }, kinds := [], alts := [], laidByText := true, laidKinds := [.data, .data, .data, .data, .pinned], laidTests := true, laidLooks := .later }
def ConfNetsUptoCardSaid : Prop := Claim7.holds Tryd.pinned (.plain (OpenSpec.upto confNetsSpec)) confNetsUptoCard
end Rows
end Go.Proofs.YtnmdiageigbphaaDoor
