/-
  From the row's list of tables to the table of powers of ten.
-/
import Derived.Test.YtdmgffcabjpihaaGreatDoorSti
import Derived.Test.YtdmgffcabjpihaaGreatDoorRows
import Derived.LaidMore
import Derived.Lib.LaidTab
import Derived.LaidByTextLater
namespace Go.Proofs.YtdmgffcabjpihaaGreatDoor
open Go.RowKit

theorem pow_type : (Tryz.prog.globals[1]?).map (·.type) = some 125 := by kernel_rfl
theorem tab_of_laid {W : World} (h : laidMetH Tryz.prog Rows.fnSheetTextsRow.laid W) : Tab W := by
  rw [MakeChecks.laidMetH_plain _ _ _ (by kernel_rfl)] at h
  obtain ⟨ps, ⟨g0, t0, cs0, f0, p0, q0, hg0, ht0, hv0, hd0, ⟨g1, t1, cs1, f1, p1, q1, hg1, ht1, hv1, hd1, ⟨g2, t2, cs2, f2, p2, q2, hg2, ht2, hv2, hd2, _⟩, _⟩, _⟩, _, _⟩ := h
  obtain rfl := Option.some.inj (pow_global.symm.trans hg2)
  obtain rfl := Option.some.inj (pow_type.symm.trans ht2)
  unfold Tab Lib.TabIs
  have h3 := Lib.cells_of_tab (k := .u64) (zs := Lib.pow10Tab) Tryz.underlying125 Tryz.underlying72 (by kernel_rfl) (by kernel_rfl) hd2
  rw [hv2, ← h3]
end Go.Proofs.YtdmgffcabjpihaaGreatDoor
