/-
  Contracts of the laws' own small functions on lists of spots: copied, compared, marked.
-/
import Derived.Test.YtdmgffcabjpihaaGreatDoorCpy
import Derived.Lib.QuietBelow
namespace Go.Proofs.YtdmgffcabjpihaaGreatDoor
open Go.RowKit Go.Sort

theorem info_spot : (Tryz.prog.info? 25).map (fun i => (i.zero, i.size, i.bytes)) = some (some (.agg #[.int .i64 0, .int .i64 0]), 2, 16) := by kernel_rfl



end Go.Proofs.YtdmgffcabjpihaaGreatDoor
