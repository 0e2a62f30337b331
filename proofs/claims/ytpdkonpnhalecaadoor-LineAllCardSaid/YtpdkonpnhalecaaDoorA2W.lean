/-
  Contracts: the law's wrong, wrongFor. Conditions: the slices read as lists of ints.
-/
import Derived.Test.YtpdkonpnhalecaaDoorA2
namespace Go.Proofs.YtpdkonpnhalecaaDoor
open Go.RowKit
end Go.Proofs.YtpdkonpnhalecaaDoor
