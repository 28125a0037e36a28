/-
  Contracts of the laws' own small functions on lists of numbers: copied, compared, marked, held.
-/
import Derived.Test.YtdmgffcabjpihaaGreatDoorLeaf
import Derived.Test.YtdmgffcabjpihaaGreatDoorMem
import Derived.LoopTactic
import Derived.OwnWalk
import Derived.Deep.RegionHeld3
namespace Go.Proofs.YtdmgffcabjpihaaGreatDoor
open Go.RowKit

theorem info_int : (Tryz.prog.info? 3).map (fun i => (i.zero, i.size, i.bytes)) = some (some (.int .i64 0), 1, 8) := by kernel_rfl





end Go.Proofs.YtdmgffcabjpihaaGreatDoor
