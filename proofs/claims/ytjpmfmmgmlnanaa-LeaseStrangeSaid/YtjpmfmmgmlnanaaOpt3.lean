/-
  The reference's Find, Secs over options; an address as data; opt.Addr.
-/
import Derived.Test.YtjpmfmmgmlnanaaOpt2
namespace Go.Proofs.Ytjpmfmmgmlnanaa
open Go.RowKit

def RFindPost (w : World) (b : List UInt8) (ok : Bool) (e : Ending) (w' : World) : Prop :=
  ∃ A n c, e = .returned (.tuple #[.slice A n c, .bool ok]) ∧ BS w' w.heap.size A n c b ∧ Below w.heap.size w w'

end Go.Proofs.Ytjpmfmmgmlnanaa
