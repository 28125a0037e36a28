/-
  Contracts of the functions on lists of spots.
-/
import Derived.Test.YthppancpecjegaaLeaf
import Derived.Test.YthppancpecjegaaMem
import Derived.LoopTactic
import Derived.Deep.RegionHeld3
namespace Go.Proofs.Ythppancpecjegaa
open Go.RowKit

end Go.Proofs.Ythppancpecjegaa
