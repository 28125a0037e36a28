/-
  Contracts of the functions on lists of spots.
-/
import Derived.Test.YtnfmciehkpfndaaLeaf
import Derived.Test.YtnfmciehkpfndaaMem
import Derived.LoopTactic
import Derived.Deep.RegionHeld3
namespace Go.Proofs.Ytnfmciehkpfndaa
open Go.RowKit

end Go.Proofs.Ytnfmciehkpfndaa
