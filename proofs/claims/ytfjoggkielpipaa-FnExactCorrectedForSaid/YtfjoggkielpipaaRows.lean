/-
  No cell of these rows narrows 'for every input' (looked for: loops, veiled, ifaces, maps, wideKeys, modest, calm, conditions, laid).
  DERIVED. THE GIVEN ROWS OF THIS SEAT. 11 by the template 'for every input the law returns true; each argument reads behind the call as it read before'; 0 by the template 'total and deterministic' (their statements: YtfjoggkielpipaaTotals.lean).
  GIVEN WITH THE SEED: the statements are not yours to turn. If you find one false, say at which input.
  Laid BY PROGRAM, IN A SANDBOX (cutbox-rows.mjs): the forced cells as the released guide's own fill.sh prints them over the translation 8dd953d6bc6b9920… (all of the seat's roots in one cut). By AI agents, Wed Nov 11 2026. No macro, syntax, notation, axiom, sorry.
-/
import Derived.Test.YtfjoggkielpipaaChecked
import GoSem.Claim
import GoSem.ClaimJoined
import GoSem.ClaimMapViews
import Derived.JoinedTies
import Derived.KernelRfl
namespace Go.Proofs.Ytfjoggkielpipaa
/- THE CELL 'sum', in the pinned program and in every row, IS THE sha256 OF THE DUMP (.gsa) THAT YtfjoggkielpipaaProg.lean LOADS. Nothing in Lean hashes anything: it is a label: what it is worth is what the hold of that sum in a sandbox is worth. -/
noncomputable def Try.pinned : Pinned := { name := "ytfjoggkielpipaa", sum := "8dd953d6bc6b9920757e7729479d3abd4153059741f38ba9988bd3fb26eda27e", checked := Try.checked }
namespace Rows
def none {H : Type} : Left H := { results := [], args := [] }

/-- 'laws.FnExactCorrectedFor': WHATEVER THE INPUT: true; the input reads as it did. -/
def fnExactCorrectedForSpec : ChangeSpec := { name := "fnExactCorrectedFor", fn := fun _ => fun
  | [d1, d2] => { results := [.lit (.bool true)], args := [d1, d2] }
  | _ => none }
def fnExactCorrectedForRow : OpenClaim := { program := "ytfjoggkielpipaa", sum := "8dd953d6bc6b9920757e7729479d3abd4153059741f38ba9988bd3fb26eda27e", func := "loop.example/g00939/laws.FnExactCorrectedFor", spec := "fnExactCorrectedFor", apart := false }
def FnExactCorrectedForSaid : Prop := fnExactCorrectedForRow.holds Try.pinned (OpenSpec.ofChange fnExactCorrectedForSpec)

/-- ITS FALSE NEIGHBOUR: 'it returns false'. Refute it at one input. -/
def fnExactCorrectedForWrong : ChangeSpec := { name := "fnExactCorrectedFor", fn := fun _ => fun
  | [d1, d2] => { results := [.lit (.bool false)], args := [d1, d2] }
  | _ => none }
def FnExactCorrectedForWrongFalsely : Prop := fnExactCorrectedForRow.holds Try.pinned (OpenSpec.ofChange fnExactCorrectedForWrong)

/-- 'laws.FnExactHeardSpread': WHATEVER THE INPUT: true; the input reads as it did. -/
def fnExactHeardSpreadSpec : ChangeSpec := { name := "fnExactHeardSpread", fn := fun _ => fun
  | [d1, d2, d3] => { results := [.lit (.bool true)], args := [d1, d2, d3] }
  | _ => none }
def fnExactHeardSpreadRow : OpenClaim := { program := "ytfjoggkielpipaa", sum := "8dd953d6bc6b9920757e7729479d3abd4153059741f38ba9988bd3fb26eda27e", func := "loop.example/g00939/laws.FnExactHeardSpread", spec := "fnExactHeardSpread", apart := false }
def FnExactHeardSpreadSaid : Prop := fnExactHeardSpreadRow.holds Try.pinned (OpenSpec.ofChange fnExactHeardSpreadSpec)

/-- ITS FALSE NEIGHBOUR: 'it returns false'. Refute it at one input. -/
def fnExactHeardSpreadWrong : ChangeSpec := { name := "fnExactHeardSpread", fn := fun _ => fun
  | [d1, d2, d3] => { results := [.lit (.bool false)], args := [d1, d2, d3] }
  | _ => none }
def FnExactHeardSpreadWrongFalsely : Prop := fnExactHeardSpreadRow.holds Try.pinned (OpenSpec.ofChange fnExactHeardSpreadWrong)

/-- 'laws.FnExactWorstListener': WHATEVER THE INPUT: true; the input reads as it did. -/
def fnExactWorstListenerSpec : ChangeSpec := { name := "fnExactWorstListener", fn := fun _ => fun
  | [d1, d2, d3] => { results := [.lit (.bool true)], args := [d1, d2, d3] }
  | _ => none }
def fnExactWorstListenerRow : OpenClaim := { program := "ytfjoggkielpipaa", sum := "8dd953d6bc6b9920757e7729479d3abd4153059741f38ba9988bd3fb26eda27e", func := "loop.example/g00939/laws.FnExactWorstListener", spec := "fnExactWorstListener", apart := false }
def FnExactWorstListenerSaid : Prop := fnExactWorstListenerRow.holds Try.pinned (OpenSpec.ofChange fnExactWorstListenerSpec)

/-- ITS FALSE NEIGHBOUR: 'it returns false'. Refute it at one input. -/
def fnExactWorstListenerWrong : ChangeSpec := { name := "fnExactWorstListener", fn := fun _ => fun
  | [d1, d2, d3] => { results := [.lit (.bool false)], args := [d1, d2, d3] }
  | _ => none }
def FnExactWorstListenerWrongFalsely : Prop := fnExactWorstListenerRow.holds Try.pinned (OpenSpec.ofChange fnExactWorstListenerWrong)

/-- 'laws.FnExactLateAt': WHATEVER THE INPUT: true; the input reads as it did. -/
def fnExactLateAtSpec : ChangeSpec := { name := "fnExactLateAt", fn := fun _ => fun
  | [d1, d2, d3, d4] => { results := [.lit (.bool true)], args := [d1, d2, d3, d4] }
  | _ => none }
def fnExactLateAtRow : OpenClaim := { program := "ytfjoggkielpipaa", sum := "8dd953d6bc6b9920757e7729479d3abd4153059741f38ba9988bd3fb26eda27e", func := "loop.example/g00939/laws.FnExactLateAt", spec := "fnExactLateAt", apart := false }
def FnExactLateAtSaid : Prop := fnExactLateAtRow.holds Try.pinned (OpenSpec.ofChange fnExactLateAtSpec)

/-- ITS FALSE NEIGHBOUR: 'it returns false'. Refute it at one input. -/
def fnExactLateAtWrong : ChangeSpec := { name := "fnExactLateAt", fn := fun _ => fun
  | [d1, d2, d3, d4] => { results := [.lit (.bool false)], args := [d1, d2, d3, d4] }
  | _ => none }
def FnExactLateAtWrongFalsely : Prop := fnExactLateAtRow.holds Try.pinned (OpenSpec.ofChange fnExactLateAtWrong)

/-- 'laws.FnExactGoodPlaces': WHATEVER THE INPUT: true; the input reads as it did. -/
def fnExactGoodPlacesSpec : ChangeSpec := { name := "fnExactGoodPlaces", fn := fun _ => fun
  | [d1, d2, d3, d4] => { results := [.lit (.bool true)], args := [d1, d2, d3, d4] }
  | _ => none }
def fnExactGoodPlacesRow : OpenClaim := { program := "ytfjoggkielpipaa", sum := "8dd953d6bc6b9920757e7729479d3abd4153059741f38ba9988bd3fb26eda27e", func := "loop.example/g00939/laws.FnExactGoodPlaces", spec := "fnExactGoodPlaces", apart := false }
def FnExactGoodPlacesSaid : Prop := fnExactGoodPlacesRow.holds Try.pinned (OpenSpec.ofChange fnExactGoodPlacesSpec)

/-- ITS FALSE NEIGHBOUR: 'it returns false'. Refute it at one input. -/
def fnExactGoodPlacesWrong : ChangeSpec := { name := "fnExactGoodPlaces", fn := fun _ => fun
  | [d1, d2, d3, d4] => { results := [.lit (.bool false)], args := [d1, d2, d3, d4] }
  | _ => none }
def FnExactGoodPlacesWrongFalsely : Prop := fnExactGoodPlacesRow.holds Try.pinned (OpenSpec.ofChange fnExactGoodPlacesWrong)

/-- 'laws.FnExactBestConductor': WHATEVER THE INPUT: true; the input reads as it did. -/
def fnExactBestConductorSpec : ChangeSpec := { name := "fnExactBestConductor", fn := fun _ => fun
  | [d1, d2, d3] => { results := [.lit (.bool true)], args := [d1, d2, d3] }
  | _ => none }
def fnExactBestConductorRow : OpenClaim := { program := "ytfjoggkielpipaa", sum := "8dd953d6bc6b9920757e7729479d3abd4153059741f38ba9988bd3fb26eda27e", func := "loop.example/g00939/laws.FnExactBestConductor", spec := "fnExactBestConductor", apart := false }
def FnExactBestConductorSaid : Prop := fnExactBestConductorRow.holds Try.pinned (OpenSpec.ofChange fnExactBestConductorSpec)

/-- ITS FALSE NEIGHBOUR: 'it returns false'. Refute it at one input. -/
def fnExactBestConductorWrong : ChangeSpec := { name := "fnExactBestConductor", fn := fun _ => fun
  | [d1, d2, d3] => { results := [.lit (.bool false)], args := [d1, d2, d3] }
  | _ => none }
def FnExactBestConductorWrongFalsely : Prop := fnExactBestConductorRow.holds Try.pinned (OpenSpec.ofChange fnExactBestConductorWrong)

/-- 'laws.FnExactEntryTimes': WHATEVER THE INPUT: true; the input reads as it did. -/
def fnExactEntryTimesSpec : ChangeSpec := { name := "fnExactEntryTimes", fn := fun _ => fun
  | [d1, d2, d3] => { results := [.lit (.bool true)], args := [d1, d2, d3] }
  | _ => none }
def fnExactEntryTimesRow : OpenClaim := { program := "ytfjoggkielpipaa", sum := "8dd953d6bc6b9920757e7729479d3abd4153059741f38ba9988bd3fb26eda27e", func := "loop.example/g00939/laws.FnExactEntryTimes", spec := "fnExactEntryTimes", apart := false }
def FnExactEntryTimesSaid : Prop := fnExactEntryTimesRow.holds Try.pinned (OpenSpec.ofChange fnExactEntryTimesSpec)

/-- ITS FALSE NEIGHBOUR: 'it returns false'. Refute it at one input. -/
def fnExactEntryTimesWrong : ChangeSpec := { name := "fnExactEntryTimes", fn := fun _ => fun
  | [d1, d2, d3] => { results := [.lit (.bool false)], args := [d1, d2, d3] }
  | _ => none }
def FnExactEntryTimesWrongFalsely : Prop := fnExactEntryTimesRow.holds Try.pinned (OpenSpec.ofChange fnExactEntryTimesWrong)

/-- 'laws.FnExactAreWindows': WHATEVER THE INPUT: true; the input reads as it did. -/
def fnExactAreWindowsSpec : ChangeSpec := { name := "fnExactAreWindows", fn := fun _ => fun
  | [d] => { results := [.lit (.bool true)], args := [d] }
  | _ => none }
def fnExactAreWindowsRow : OpenClaim := { program := "ytfjoggkielpipaa", sum := "8dd953d6bc6b9920757e7729479d3abd4153059741f38ba9988bd3fb26eda27e", func := "loop.example/g00939/laws.FnExactAreWindows", spec := "fnExactAreWindows", apart := false }
def FnExactAreWindowsSaid : Prop := fnExactAreWindowsRow.holds Try.pinned (OpenSpec.ofChange fnExactAreWindowsSpec)

/-- ITS FALSE NEIGHBOUR: 'it returns false'. Refute it at one input. -/
def fnExactAreWindowsWrong : ChangeSpec := { name := "fnExactAreWindows", fn := fun _ => fun
  | [d] => { results := [.lit (.bool false)], args := [d] }
  | _ => none }
def FnExactAreWindowsWrongFalsely : Prop := fnExactAreWindowsRow.holds Try.pinned (OpenSpec.ofChange fnExactAreWindowsWrong)

/-- 'laws.FnExactLongestWindow': WHATEVER THE INPUT: true; the input reads as it did. -/
def fnExactLongestWindowSpec : ChangeSpec := { name := "fnExactLongestWindow", fn := fun _ => fun
  | [d] => { results := [.lit (.bool true)], args := [d] }
  | _ => none }
def fnExactLongestWindowRow : OpenClaim := { program := "ytfjoggkielpipaa", sum := "8dd953d6bc6b9920757e7729479d3abd4153059741f38ba9988bd3fb26eda27e", func := "loop.example/g00939/laws.FnExactLongestWindow", spec := "fnExactLongestWindow", apart := false }
def FnExactLongestWindowSaid : Prop := fnExactLongestWindowRow.holds Try.pinned (OpenSpec.ofChange fnExactLongestWindowSpec)

/-- ITS FALSE NEIGHBOUR: 'it returns false'. Refute it at one input. -/
def fnExactLongestWindowWrong : ChangeSpec := { name := "fnExactLongestWindow", fn := fun _ => fun
  | [d] => { results := [.lit (.bool false)], args := [d] }
  | _ => none }
def FnExactLongestWindowWrongFalsely : Prop := fnExactLongestWindowRow.holds Try.pinned (OpenSpec.ofChange fnExactLongestWindowWrong)

/-- 'laws.FnExactHoursOf': WHATEVER THE INPUT: true; the input reads as it did. -/
def fnExactHoursOfSpec : ChangeSpec := { name := "fnExactHoursOf", fn := fun _ => fun
  | [d1, d2] => { results := [.lit (.bool true)], args := [d1, d2] }
  | _ => none }
def fnExactHoursOfRow : OpenClaim := { program := "ytfjoggkielpipaa", sum := "8dd953d6bc6b9920757e7729479d3abd4153059741f38ba9988bd3fb26eda27e", func := "loop.example/g00939/laws.FnExactHoursOf", spec := "fnExactHoursOf", apart := false }
def FnExactHoursOfSaid : Prop := fnExactHoursOfRow.holds Try.pinned (OpenSpec.ofChange fnExactHoursOfSpec)

/-- ITS FALSE NEIGHBOUR: 'it returns false'. Refute it at one input. -/
def fnExactHoursOfWrong : ChangeSpec := { name := "fnExactHoursOf", fn := fun _ => fun
  | [d1, d2] => { results := [.lit (.bool false)], args := [d1, d2] }
  | _ => none }
def FnExactHoursOfWrongFalsely : Prop := fnExactHoursOfRow.holds Try.pinned (OpenSpec.ofChange fnExactHoursOfWrong)

/-- 'laws.FnExactFirstRoom': WHATEVER THE INPUT: true; the input reads as it did. -/
def fnExactFirstRoomSpec : ChangeSpec := { name := "fnExactFirstRoom", fn := fun _ => fun
  | [d1, d2, d3] => { results := [.lit (.bool true)], args := [d1, d2, d3] }
  | _ => none }
def fnExactFirstRoomRow : OpenClaim := { program := "ytfjoggkielpipaa", sum := "8dd953d6bc6b9920757e7729479d3abd4153059741f38ba9988bd3fb26eda27e", func := "loop.example/g00939/laws.FnExactFirstRoom", spec := "fnExactFirstRoom", apart := false }
def FnExactFirstRoomSaid : Prop := fnExactFirstRoomRow.holds Try.pinned (OpenSpec.ofChange fnExactFirstRoomSpec)

/-- ITS FALSE NEIGHBOUR: 'it returns false'. Refute it at one input. -/
def fnExactFirstRoomWrong : ChangeSpec := { name := "fnExactFirstRoom", fn := fun _ => fun
  | [d1, d2, d3] => { results := [.lit (.bool false)], args := [d1, d2, d3] }
  | _ => none }
def FnExactFirstRoomWrongFalsely : Prop := fnExactFirstRoomRow.holds Try.pinned (OpenSpec.ofChange fnExactFirstRoomWrong)

/- THE SECOND FORM. 'bulk': how many values and letters a reading holds, each counted each time it is reached (what is shared counts as often as it is met; a slice's spare places count too). A statement '..UptoSaid' is the law's where the arguments, and the package variables that the reading takes, are together of bulk at most 1048576: NARROWER than '..Said'. Prove '..Said' where nothing that the law and all that it calls make is longer than what came in: it says more and counts as full. Else prove '..UptoSaid'. A law counts once. -/
mutual
def uptoBulk {H : Type} : DataW H → Nat
  | .lit (.string bytes) => bytes.length + 1
  | .lit _ => 1
  | .nil => 1
  | .ptr d => uptoBulk d + 1
  | .slice elems spare => uptoBulkAll elems + uptoBulkAll spare + 1
  | .agg parts => uptoBulkAll parts + 1
  | .iface _ d => uptoBulk d + 1
  | .map entries => uptoBulkEntries entries + 1
  | .held _ => 1
def uptoBulkAll {H : Type} : List (DataW H) → Nat
  | [] => 0
  | d :: r => uptoBulk d + uptoBulkAll r
def uptoBulkEntries {H : Type} : List (Lit × DataW H) → Nat
  | [] => 0
  | x :: r => uptoBulkEntry x + uptoBulkEntries r
def uptoBulkEntry {H : Type} : Lit × DataW H → Nat
  | (.string bytes, d) => bytes.length + uptoBulk d + 1
  | (_, d) => uptoBulk d + 1
 end
def uptoSmall : (H : Type) → List (DataW H) → Bool := fun _ ds => decide (uptoBulkAll ds ≤ 1048576)
def OpenSpec.upto (s : _root_.Go.ChangeSpec) : _root_.Go.OpenSpec := { _root_.Go.OpenSpec.ofChange s with cond := some uptoSmall }

/-- 'laws.FnExactCorrectedFor', WHERE WHAT IT READS IS OF BULK AT MOST 1048576: true; the input reads as it did. -/
def fnExactCorrectedForUptoRow : OpenClaim := { program := "ytfjoggkielpipaa", sum := "8dd953d6bc6b9920757e7729479d3abd4153059741f38ba9988bd3fb26eda27e", func := "loop.example/g00939/laws.FnExactCorrectedFor", spec := "fnExactCorrectedFor", apart := false, narrowed := true }
def FnExactCorrectedForUptoSaid : Prop := fnExactCorrectedForUptoRow.holds Try.pinned (OpenSpec.upto fnExactCorrectedForSpec)

/-- 'laws.FnExactHeardSpread', WHERE WHAT IT READS IS OF BULK AT MOST 1048576: true; the input reads as it did. -/
def fnExactHeardSpreadUptoRow : OpenClaim := { program := "ytfjoggkielpipaa", sum := "8dd953d6bc6b9920757e7729479d3abd4153059741f38ba9988bd3fb26eda27e", func := "loop.example/g00939/laws.FnExactHeardSpread", spec := "fnExactHeardSpread", apart := false, narrowed := true }
def FnExactHeardSpreadUptoSaid : Prop := fnExactHeardSpreadUptoRow.holds Try.pinned (OpenSpec.upto fnExactHeardSpreadSpec)

/-- 'laws.FnExactWorstListener', WHERE WHAT IT READS IS OF BULK AT MOST 1048576: true; the input reads as it did. -/
def fnExactWorstListenerUptoRow : OpenClaim := { program := "ytfjoggkielpipaa", sum := "8dd953d6bc6b9920757e7729479d3abd4153059741f38ba9988bd3fb26eda27e", func := "loop.example/g00939/laws.FnExactWorstListener", spec := "fnExactWorstListener", apart := false, narrowed := true }
def FnExactWorstListenerUptoSaid : Prop := fnExactWorstListenerUptoRow.holds Try.pinned (OpenSpec.upto fnExactWorstListenerSpec)

/-- 'laws.FnExactLateAt', WHERE WHAT IT READS IS OF BULK AT MOST 1048576: true; the input reads as it did. -/
def fnExactLateAtUptoRow : OpenClaim := { program := "ytfjoggkielpipaa", sum := "8dd953d6bc6b9920757e7729479d3abd4153059741f38ba9988bd3fb26eda27e", func := "loop.example/g00939/laws.FnExactLateAt", spec := "fnExactLateAt", apart := false, narrowed := true }
def FnExactLateAtUptoSaid : Prop := fnExactLateAtUptoRow.holds Try.pinned (OpenSpec.upto fnExactLateAtSpec)

/-- 'laws.FnExactGoodPlaces', WHERE WHAT IT READS IS OF BULK AT MOST 1048576: true; the input reads as it did. -/
def fnExactGoodPlacesUptoRow : OpenClaim := { program := "ytfjoggkielpipaa", sum := "8dd953d6bc6b9920757e7729479d3abd4153059741f38ba9988bd3fb26eda27e", func := "loop.example/g00939/laws.FnExactGoodPlaces", spec := "fnExactGoodPlaces", apart := false, narrowed := true }
def FnExactGoodPlacesUptoSaid : Prop := fnExactGoodPlacesUptoRow.holds Try.pinned (OpenSpec.upto fnExactGoodPlacesSpec)

/-- 'laws.FnExactBestConductor', WHERE WHAT IT READS IS OF BULK AT MOST 1048576: true; the input reads as it did. -/
def fnExactBestConductorUptoRow : OpenClaim := { program := "ytfjoggkielpipaa", sum := "8dd953d6bc6b9920757e7729479d3abd4153059741f38ba9988bd3fb26eda27e", func := "loop.example/g00939/laws.FnExactBestConductor", spec := "fnExactBestConductor", apart := false, narrowed := true }
def FnExactBestConductorUptoSaid : Prop := fnExactBestConductorUptoRow.holds Try.pinned (OpenSpec.upto fnExactBestConductorSpec)

/-- 'laws.FnExactEntryTimes', WHERE WHAT IT READS IS OF BULK AT MOST 1048576: true; the input reads as it did. -/
def fnExactEntryTimesUptoRow : OpenClaim := { program := "ytfjoggkielpipaa", sum := "8dd953d6bc6b9920757e7729479d3abd4153059741f38ba9988bd3fb26eda27e", func := "loop.example/g00939/laws.FnExactEntryTimes", spec := "fnExactEntryTimes", apart := false, narrowed := true }
def FnExactEntryTimesUptoSaid : Prop := fnExactEntryTimesUptoRow.holds Try.pinned (OpenSpec.upto fnExactEntryTimesSpec)

/-- 'laws.FnExactAreWindows', WHERE WHAT IT READS IS OF BULK AT MOST 1048576: true; the input reads as it did. -/
def fnExactAreWindowsUptoRow : OpenClaim := { program := "ytfjoggkielpipaa", sum := "8dd953d6bc6b9920757e7729479d3abd4153059741f38ba9988bd3fb26eda27e", func := "loop.example/g00939/laws.FnExactAreWindows", spec := "fnExactAreWindows", apart := false, narrowed := true }
def FnExactAreWindowsUptoSaid : Prop := fnExactAreWindowsUptoRow.holds Try.pinned (OpenSpec.upto fnExactAreWindowsSpec)

/-- 'laws.FnExactLongestWindow', WHERE WHAT IT READS IS OF BULK AT MOST 1048576: true; the input reads as it did. -/
def fnExactLongestWindowUptoRow : OpenClaim := { program := "ytfjoggkielpipaa", sum := "8dd953d6bc6b9920757e7729479d3abd4153059741f38ba9988bd3fb26eda27e", func := "loop.example/g00939/laws.FnExactLongestWindow", spec := "fnExactLongestWindow", apart := false, narrowed := true }
def FnExactLongestWindowUptoSaid : Prop := fnExactLongestWindowUptoRow.holds Try.pinned (OpenSpec.upto fnExactLongestWindowSpec)

/-- 'laws.FnExactHoursOf', WHERE WHAT IT READS IS OF BULK AT MOST 1048576: true; the input reads as it did. -/
def fnExactHoursOfUptoRow : OpenClaim := { program := "ytfjoggkielpipaa", sum := "8dd953d6bc6b9920757e7729479d3abd4153059741f38ba9988bd3fb26eda27e", func := "loop.example/g00939/laws.FnExactHoursOf", spec := "fnExactHoursOf", apart := false, narrowed := true }
def FnExactHoursOfUptoSaid : Prop := fnExactHoursOfUptoRow.holds Try.pinned (OpenSpec.upto fnExactHoursOfSpec)

/-- 'laws.FnExactFirstRoom', WHERE WHAT IT READS IS OF BULK AT MOST 1048576: true; the input reads as it did. -/
def fnExactFirstRoomUptoRow : OpenClaim := { program := "ytfjoggkielpipaa", sum := "8dd953d6bc6b9920757e7729479d3abd4153059741f38ba9988bd3fb26eda27e", func := "loop.example/g00939/laws.FnExactFirstRoom", spec := "fnExactFirstRoom", apart := false, narrowed := true }
def FnExactFirstRoomUptoSaid : Prop := fnExactFirstRoomUptoRow.holds Try.pinned (OpenSpec.upto fnExactFirstRoomSpec)

end Rows
end Go.Proofs.Ytfjoggkielpipaa
