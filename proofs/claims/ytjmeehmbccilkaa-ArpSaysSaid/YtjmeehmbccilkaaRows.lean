/-
  No cell of these rows narrows 'for every input' (looked for: loops, veiled, ifaces, maps, wideKeys, modest, calm, conditions, laid).
  DERIVED. THE GIVEN ROWS OF THIS SEAT. 9 by the template 'for every input the law returns true; each argument reads behind the call as it read before'; 0 by the template 'total and deterministic' (their statements: YtjmeehmbccilkaaTotals.lean).
  GIVEN WITH THE SEED: the statements are not yours to turn. If you find one false, say at which input.
  Laid BY PROGRAM, IN A SANDBOX (cutbox-rows.mjs): the forced cells as the released guide's own fill.sh prints them over the translation 1693dd8946f4e437… (all of the seat's roots in one cut). By AI agents, Wed Nov 11 2026. No macro, syntax, notation, axiom, sorry.
-/
import Derived.Test.YtjmeehmbccilkaaChecked
import GoSem.Claim
import GoSem.ClaimJoined
import GoSem.ClaimMapViews
import Derived.JoinedTies
import Derived.KernelRfl
namespace Go.Proofs.Ytjmeehmbccilkaa
/- THE CELL 'sum', in the pinned program and in every row, IS THE sha256 OF THE DUMP (.gsa) THAT YtjmeehmbccilkaaProg.lean LOADS. Nothing in Lean hashes anything: it is a label: what it is worth is what the hold of that sum in a sandbox is worth. -/
noncomputable def Try.pinned : Pinned := { name := "ytjmeehmbccilkaa", sum := "1693dd8946f4e4371bc7e40ea1dffc49ab6d6ad1eae3e1843cc6b4ff8edc6509", checked := Try.checked }
namespace Rows
def none {H : Type} : Left H := { results := [], args := [] }

/-- 'gatehouselaw4.EtherKnown': WHATEVER THE INPUT: true; the input reads as it did. -/
def etherKnownSpec : ChangeSpec := { name := "etherKnown", fn := fun _ => fun
  | [] => { results := [.lit (.bool true)], args := [] }
  | _ => none }
def etherKnownRow : OpenClaim := { program := "ytjmeehmbccilkaa", sum := "1693dd8946f4e4371bc7e40ea1dffc49ab6d6ad1eae3e1843cc6b4ff8edc6509", func := "gatehouse/gatehouselaw4.EtherKnown", spec := "etherKnown", apart := false }
def EtherKnownSaid : Prop := etherKnownRow.holds Try.pinned (OpenSpec.ofChange etherKnownSpec)

/-- ITS FALSE NEIGHBOUR: 'it returns false'. Refute it at one input. -/
def etherKnownWrong : ChangeSpec := { name := "etherKnown", fn := fun _ => fun
  | [] => { results := [.lit (.bool false)], args := [] }
  | _ => none }
def EtherKnownWrongFalsely : Prop := etherKnownRow.holds Try.pinned (OpenSpec.ofChange etherKnownWrong)

/-- 'gatehouselaw4.EtherSays': WHATEVER THE INPUT: true; the input reads as it did. -/
def etherSaysSpec : ChangeSpec := { name := "etherSays", fn := fun _ => fun
  | [d1, d2, d3] => { results := [.lit (.bool true)], args := [d1, d2, d3] }
  | _ => none }
def etherSaysRow : OpenClaim := { program := "ytjmeehmbccilkaa", sum := "1693dd8946f4e4371bc7e40ea1dffc49ab6d6ad1eae3e1843cc6b4ff8edc6509", func := "gatehouse/gatehouselaw4.EtherSays", spec := "etherSays", apart := false }
def EtherSaysSaid : Prop := etherSaysRow.holds Try.pinned (OpenSpec.ofChange etherSaysSpec)

/-- ITS FALSE NEIGHBOUR: 'it returns false'. Refute it at one input. -/
def etherSaysWrong : ChangeSpec := { name := "etherSays", fn := fun _ => fun
  | [d1, d2, d3] => { results := [.lit (.bool false)], args := [d1, d2, d3] }
  | _ => none }
def EtherSaysWrongFalsely : Prop := etherSaysRow.holds Try.pinned (OpenSpec.ofChange etherSaysWrong)

/-- 'gatehouselaw4.EtherBack': WHATEVER THE INPUT: true; the input reads as it did. -/
def etherBackSpec : ChangeSpec := { name := "etherBack", fn := fun _ => fun
  | [d] => { results := [.lit (.bool true)], args := [d] }
  | _ => none }
def etherBackRow : OpenClaim := { program := "ytjmeehmbccilkaa", sum := "1693dd8946f4e4371bc7e40ea1dffc49ab6d6ad1eae3e1843cc6b4ff8edc6509", func := "gatehouse/gatehouselaw4.EtherBack", spec := "etherBack", apart := false }
def EtherBackSaid : Prop := etherBackRow.holds Try.pinned (OpenSpec.ofChange etherBackSpec)

/-- ITS FALSE NEIGHBOUR: 'it returns false'. Refute it at one input. -/
def etherBackWrong : ChangeSpec := { name := "etherBack", fn := fun _ => fun
  | [d] => { results := [.lit (.bool false)], args := [d] }
  | _ => none }
def EtherBackWrongFalsely : Prop := etherBackRow.holds Try.pinned (OpenSpec.ofChange etherBackWrong)

/-- 'gatehouselaw4.EtherSizes': WHATEVER THE INPUT: true; the input reads as it did. -/
def etherSizesSpec : ChangeSpec := { name := "etherSizes", fn := fun _ => fun
  | [d] => { results := [.lit (.bool true)], args := [d] }
  | _ => none }
def etherSizesRow : OpenClaim := { program := "ytjmeehmbccilkaa", sum := "1693dd8946f4e4371bc7e40ea1dffc49ab6d6ad1eae3e1843cc6b4ff8edc6509", func := "gatehouse/gatehouselaw4.EtherSizes", spec := "etherSizes", apart := false }
def EtherSizesSaid : Prop := etherSizesRow.holds Try.pinned (OpenSpec.ofChange etherSizesSpec)

/-- ITS FALSE NEIGHBOUR: 'it returns false'. Refute it at one input. -/
def etherSizesWrong : ChangeSpec := { name := "etherSizes", fn := fun _ => fun
  | [d] => { results := [.lit (.bool false)], args := [d] }
  | _ => none }
def EtherSizesWrongFalsely : Prop := etherSizesRow.holds Try.pinned (OpenSpec.ofChange etherSizesWrong)

/-- 'gatehouselaw4.EtherMine': WHATEVER THE INPUT: true; the input reads as it did. -/
def etherMineSpec : ChangeSpec := { name := "etherMine", fn := fun _ => fun
  | [d1, d2] => { results := [.lit (.bool true)], args := [d1, d2] }
  | _ => none }
def etherMineRow : OpenClaim := { program := "ytjmeehmbccilkaa", sum := "1693dd8946f4e4371bc7e40ea1dffc49ab6d6ad1eae3e1843cc6b4ff8edc6509", func := "gatehouse/gatehouselaw4.EtherMine", spec := "etherMine", apart := false }
def EtherMineSaid : Prop := etherMineRow.holds Try.pinned (OpenSpec.ofChange etherMineSpec)

/-- ITS FALSE NEIGHBOUR: 'it returns false'. Refute it at one input. -/
def etherMineWrong : ChangeSpec := { name := "etherMine", fn := fun _ => fun
  | [d1, d2] => { results := [.lit (.bool false)], args := [d1, d2] }
  | _ => none }
def EtherMineWrongFalsely : Prop := etherMineRow.holds Try.pinned (OpenSpec.ofChange etherMineWrong)

/-- 'gatehouselaw5.ArpBehind': WHATEVER THE INPUT: true; the input reads as it did. -/
def arpBehindSpec : ChangeSpec := { name := "arpBehind", fn := fun _ => fun
  | [d1, d2, d3] => { results := [.lit (.bool true)], args := [d1, d2, d3] }
  | _ => none }
def arpBehindRow : OpenClaim := { program := "ytjmeehmbccilkaa", sum := "1693dd8946f4e4371bc7e40ea1dffc49ab6d6ad1eae3e1843cc6b4ff8edc6509", func := "gatehouse/gatehouselaw5.ArpBehind", spec := "arpBehind", apart := false }
def ArpBehindSaid : Prop := arpBehindRow.holds Try.pinned (OpenSpec.ofChange arpBehindSpec)

/-- ITS FALSE NEIGHBOUR: 'it returns false'. Refute it at one input. -/
def arpBehindWrong : ChangeSpec := { name := "arpBehind", fn := fun _ => fun
  | [d1, d2, d3] => { results := [.lit (.bool false)], args := [d1, d2, d3] }
  | _ => none }
def ArpBehindWrongFalsely : Prop := arpBehindRow.holds Try.pinned (OpenSpec.ofChange arpBehindWrong)

/-- 'gatehouselaw5.ArpKnown': WHATEVER THE INPUT: true; the input reads as it did. -/
def arpKnownSpec : ChangeSpec := { name := "arpKnown", fn := fun _ => fun
  | [] => { results := [.lit (.bool true)], args := [] }
  | _ => none }
def arpKnownRow : OpenClaim := { program := "ytjmeehmbccilkaa", sum := "1693dd8946f4e4371bc7e40ea1dffc49ab6d6ad1eae3e1843cc6b4ff8edc6509", func := "gatehouse/gatehouselaw5.ArpKnown", spec := "arpKnown", apart := false }
def ArpKnownSaid : Prop := arpKnownRow.holds Try.pinned (OpenSpec.ofChange arpKnownSpec)

/-- ITS FALSE NEIGHBOUR: 'it returns false'. Refute it at one input. -/
def arpKnownWrong : ChangeSpec := { name := "arpKnown", fn := fun _ => fun
  | [] => { results := [.lit (.bool false)], args := [] }
  | _ => none }
def ArpKnownWrongFalsely : Prop := arpKnownRow.holds Try.pinned (OpenSpec.ofChange arpKnownWrong)

/-- 'gatehouselaw5.ArpSays': WHATEVER THE INPUT: true; the input reads as it did. -/
def arpSaysSpec : ChangeSpec := { name := "arpSays", fn := fun _ => fun
  | [d1, d2, d3] => { results := [.lit (.bool true)], args := [d1, d2, d3] }
  | _ => none }
def arpSaysRow : OpenClaim := { program := "ytjmeehmbccilkaa", sum := "1693dd8946f4e4371bc7e40ea1dffc49ab6d6ad1eae3e1843cc6b4ff8edc6509", func := "gatehouse/gatehouselaw5.ArpSays", spec := "arpSays", apart := false }
def ArpSaysSaid : Prop := arpSaysRow.holds Try.pinned (OpenSpec.ofChange arpSaysSpec)

/-- ITS FALSE NEIGHBOUR: 'it returns false'. Refute it at one input. -/
def arpSaysWrong : ChangeSpec := { name := "arpSays", fn := fun _ => fun
  | [d1, d2, d3] => { results := [.lit (.bool false)], args := [d1, d2, d3] }
  | _ => none }
def ArpSaysWrongFalsely : Prop := arpSaysRow.holds Try.pinned (OpenSpec.ofChange arpSaysWrong)

/-- 'gatehouselaw5.ArpTalks': WHATEVER THE INPUT: true; the input reads as it did. -/
def arpTalksSpec : ChangeSpec := { name := "arpTalks", fn := fun _ => fun
  | [d1, d2, d3, d4] => { results := [.lit (.bool true)], args := [d1, d2, d3, d4] }
  | _ => none }
def arpTalksRow : OpenClaim := { program := "ytjmeehmbccilkaa", sum := "1693dd8946f4e4371bc7e40ea1dffc49ab6d6ad1eae3e1843cc6b4ff8edc6509", func := "gatehouse/gatehouselaw5.ArpTalks", spec := "arpTalks", apart := false }
def ArpTalksSaid : Prop := arpTalksRow.holds Try.pinned (OpenSpec.ofChange arpTalksSpec)

/-- ITS FALSE NEIGHBOUR: 'it returns false'. Refute it at one input. -/
def arpTalksWrong : ChangeSpec := { name := "arpTalks", fn := fun _ => fun
  | [d1, d2, d3, d4] => { results := [.lit (.bool false)], args := [d1, d2, d3, d4] }
  | _ => none }
def ArpTalksWrongFalsely : Prop := arpTalksRow.holds Try.pinned (OpenSpec.ofChange arpTalksWrong)

/- THE SECOND FORM. 'bulk': how many values and letters a reading holds, each counted each time it is reached (what is shared counts as often as it is met; a slice's spare places count too). A statement '..UptoSaid' is the law's where the arguments, and the package variables that the reading takes, are together of bulk at most 1048576: NARROWER than '..Said'. Prove '..Said' where nothing that the law and all that it calls make is longer than what came in: it says more and counts as full. Else prove '..UptoSaid'. A law counts once. -/
mutual
def uptoBulk {H : Type} : DataW H → Nat
  | .lit (.string bytes) => bytes.length + 1
  | .lit _ => 1
  | .nil => 1
  | .ptr d => uptoBulk d + 1
  | .slice elems spare => uptoBulkAll elems + uptoBulkAll spare + 1
  | .agg parts => uptoBulkAll parts + 1
  | .iface _ d => uptoBulk d + 1
  | .map entries => uptoBulkEntries entries + 1
  | .held _ => 1
def uptoBulkAll {H : Type} : List (DataW H) → Nat
  | [] => 0
  | d :: r => uptoBulk d + uptoBulkAll r
def uptoBulkEntries {H : Type} : List (Lit × DataW H) → Nat
  | [] => 0
  | x :: r => uptoBulkEntry x + uptoBulkEntries r
def uptoBulkEntry {H : Type} : Lit × DataW H → Nat
  | (.string bytes, d) => bytes.length + uptoBulk d + 1
  | (_, d) => uptoBulk d + 1
 end
def uptoSmall : (H : Type) → List (DataW H) → Bool := fun _ ds => decide (uptoBulkAll ds ≤ 1048576)
def OpenSpec.upto (s : _root_.Go.ChangeSpec) : _root_.Go.OpenSpec := { _root_.Go.OpenSpec.ofChange s with cond := some uptoSmall }

/-- 'gatehouselaw4.EtherKnown', WHERE WHAT IT READS IS OF BULK AT MOST 1048576: true; the input reads as it did. -/
def etherKnownUptoRow : OpenClaim := { program := "ytjmeehmbccilkaa", sum := "1693dd8946f4e4371bc7e40ea1dffc49ab6d6ad1eae3e1843cc6b4ff8edc6509", func := "gatehouse/gatehouselaw4.EtherKnown", spec := "etherKnown", apart := false, narrowed := true }
def EtherKnownUptoSaid : Prop := etherKnownUptoRow.holds Try.pinned (OpenSpec.upto etherKnownSpec)

/-- 'gatehouselaw4.EtherSays', WHERE WHAT IT READS IS OF BULK AT MOST 1048576: true; the input reads as it did. -/
def etherSaysUptoRow : OpenClaim := { program := "ytjmeehmbccilkaa", sum := "1693dd8946f4e4371bc7e40ea1dffc49ab6d6ad1eae3e1843cc6b4ff8edc6509", func := "gatehouse/gatehouselaw4.EtherSays", spec := "etherSays", apart := false, narrowed := true }
def EtherSaysUptoSaid : Prop := etherSaysUptoRow.holds Try.pinned (OpenSpec.upto etherSaysSpec)

/-- 'gatehouselaw4.EtherBack', WHERE WHAT IT READS IS OF BULK AT MOST 1048576: true; the input reads as it did. -/
def etherBackUptoRow : OpenClaim := { program := "ytjmeehmbccilkaa", sum := "1693dd8946f4e4371bc7e40ea1dffc49ab6d6ad1eae3e1843cc6b4ff8edc6509", func := "gatehouse/gatehouselaw4.EtherBack", spec := "etherBack", apart := false, narrowed := true }
def EtherBackUptoSaid : Prop := etherBackUptoRow.holds Try.pinned (OpenSpec.upto etherBackSpec)

/-- 'gatehouselaw4.EtherSizes', WHERE WHAT IT READS IS OF BULK AT MOST 1048576: true; the input reads as it did. -/
def etherSizesUptoRow : OpenClaim := { program := "ytjmeehmbccilkaa", sum := "1693dd8946f4e4371bc7e40ea1dffc49ab6d6ad1eae3e1843cc6b4ff8edc6509", func := "gatehouse/gatehouselaw4.EtherSizes", spec := "etherSizes", apart := false, narrowed := true }
def EtherSizesUptoSaid : Prop := etherSizesUptoRow.holds Try.pinned (OpenSpec.upto etherSizesSpec)

/-- 'gatehouselaw4.EtherMine', WHERE WHAT IT READS IS OF BULK AT MOST 1048576: true; the input reads as it did. -/
def etherMineUptoRow : OpenClaim := { program := "ytjmeehmbccilkaa", sum := "1693dd8946f4e4371bc7e40ea1dffc49ab6d6ad1eae3e1843cc6b4ff8edc6509", func := "gatehouse/gatehouselaw4.EtherMine", spec := "etherMine", apart := false, narrowed := true }
def EtherMineUptoSaid : Prop := etherMineUptoRow.holds Try.pinned (OpenSpec.upto etherMineSpec)

/-- 'gatehouselaw5.ArpBehind', WHERE WHAT IT READS IS OF BULK AT MOST 1048576: true; the input reads as it did. -/
def arpBehindUptoRow : OpenClaim := { program := "ytjmeehmbccilkaa", sum := "1693dd8946f4e4371bc7e40ea1dffc49ab6d6ad1eae3e1843cc6b4ff8edc6509", func := "gatehouse/gatehouselaw5.ArpBehind", spec := "arpBehind", apart := false, narrowed := true }
def ArpBehindUptoSaid : Prop := arpBehindUptoRow.holds Try.pinned (OpenSpec.upto arpBehindSpec)

/-- 'gatehouselaw5.ArpKnown', WHERE WHAT IT READS IS OF BULK AT MOST 1048576: true; the input reads as it did. -/
def arpKnownUptoRow : OpenClaim := { program := "ytjmeehmbccilkaa", sum := "1693dd8946f4e4371bc7e40ea1dffc49ab6d6ad1eae3e1843cc6b4ff8edc6509", func := "gatehouse/gatehouselaw5.ArpKnown", spec := "arpKnown", apart := false, narrowed := true }
def ArpKnownUptoSaid : Prop := arpKnownUptoRow.holds Try.pinned (OpenSpec.upto arpKnownSpec)

/-- 'gatehouselaw5.ArpSays', WHERE WHAT IT READS IS OF BULK AT MOST 1048576: true; the input reads as it did. -/
def arpSaysUptoRow : OpenClaim := { program := "ytjmeehmbccilkaa", sum := "1693dd8946f4e4371bc7e40ea1dffc49ab6d6ad1eae3e1843cc6b4ff8edc6509", func := "gatehouse/gatehouselaw5.ArpSays", spec := "arpSays", apart := false, narrowed := true }
def ArpSaysUptoSaid : Prop := arpSaysUptoRow.holds Try.pinned (OpenSpec.upto arpSaysSpec)

/-- 'gatehouselaw5.ArpTalks', WHERE WHAT IT READS IS OF BULK AT MOST 1048576: true; the input reads as it did. -/
def arpTalksUptoRow : OpenClaim := { program := "ytjmeehmbccilkaa", sum := "1693dd8946f4e4371bc7e40ea1dffc49ab6d6ad1eae3e1843cc6b4ff8edc6509", func := "gatehouse/gatehouselaw5.ArpTalks", spec := "arpTalks", apart := false, narrowed := true }
def ArpTalksUptoSaid : Prop := arpTalksUptoRow.holds Try.pinned (OpenSpec.upto arpTalksSpec)

end Rows
end Go.Proofs.Ytjmeehmbccilkaa
