/-
  Contracts of the functions on lists of spots.
-/
import Derived.Test.YtbgbcajcajaocaaLeaf
import Derived.Test.YtbgbcajcajaocaaMem
import Derived.LoopTactic
import Derived.Deep.RegionHeld3
namespace Go.Proofs.Ytbgbcajcajaocaa
open Go.RowKit

end Go.Proofs.Ytbgbcajcajaocaa
