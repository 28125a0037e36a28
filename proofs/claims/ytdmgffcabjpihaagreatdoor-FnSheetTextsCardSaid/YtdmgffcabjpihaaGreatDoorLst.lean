/-
  Contracts of the functions on lists of spots.
-/
import Derived.Test.YtdmgffcabjpihaaGreatDoorLeaf
import Derived.Test.YtdmgffcabjpihaaGreatDoorMem
import Derived.LoopTactic
import Derived.Deep.RegionHeld3
namespace Go.Proofs.YtdmgffcabjpihaaGreatDoor
open Go.RowKit

end Go.Proofs.YtdmgffcabjpihaaGreatDoor
