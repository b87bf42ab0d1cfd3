/-
  The reference's PutOpts.
-/
import Derived.Test.YtjpmfmmgmlnanaaOpt10
namespace Go.Proofs.Ytjpmfmmgmlnanaa
open Go.RowKit

end Go.Proofs.Ytjpmfmmgmlnanaa
