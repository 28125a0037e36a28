/-
  Contracts of the functions on lists of spots.
-/
import Derived.Test.YtjnkkeaknaoghaaLeaf
import Derived.Test.YtjnkkeaknaoghaaMem
import Derived.LoopTactic
import Derived.Deep.RegionHeld3
namespace Go.Proofs.Ytjnkkeaknaoghaa
open Go.RowKit

end Go.Proofs.Ytjnkkeaknaoghaa
