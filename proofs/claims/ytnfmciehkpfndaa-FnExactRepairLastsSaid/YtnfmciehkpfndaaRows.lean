/-
  No cell of these rows narrows 'for every input' (looked for: loops, veiled, ifaces, maps, wideKeys, modest, calm, conditions, laid).
  DERIVED. THE GIVEN ROWS OF THIS SEAT. 11 by the template 'for every input the law returns true; each argument reads behind the call as it read before'; 0 by the template 'total and deterministic' (their statements: YtnfmciehkpfndaaTotals.lean).
  GIVEN WITH THE SEED: the statements are not yours to turn. If you find one false, say at which input.
  Laid BY PROGRAM, IN A SANDBOX (cutbox-rows.mjs): the forced cells as the released guide's own fill.sh prints them over the translation 3b13757de7dc1994… (all of the seat's roots in one cut). By AI agents, Wed Nov 11 2026. No macro, syntax, notation, axiom, sorry.
-/
import Derived.Test.YtnfmciehkpfndaaChecked
import GoSem.Claim
import GoSem.ClaimJoined
import GoSem.ClaimMapViews
import Derived.JoinedTies
import Derived.KernelRfl
namespace Go.Proofs.Ytnfmciehkpfndaa
/- THE CELL 'sum', in the pinned program and in every row, IS THE sha256 OF THE DUMP (.gsa) THAT YtnfmciehkpfndaaProg.lean LOADS. Nothing in Lean hashes anything: it is a label: what it is worth is what the hold of that sum in a sandbox is worth. -/
noncomputable def Try.pinned : Pinned := { name := "ytnfmciehkpfndaa", sum := "3b13757de7dc1994c36530ce5c5d7ba49fdf5aa035c1db5870e7b4ced2db32b4", checked := Try.checked }
namespace Rows
def none {H : Type} : Left H := { results := [], args := [] }

/-- 'laws.FnExactIsAbsence': WHATEVER THE INPUT: true; the input reads as it did. -/
def fnExactIsAbsenceSpec : ChangeSpec := { name := "fnExactIsAbsence", fn := fun _ => fun
  | [d1, d2, d3] => { results := [.lit (.bool true)], args := [d1, d2, d3] }
  | _ => none }
def fnExactIsAbsenceRow : OpenClaim := { program := "ytnfmciehkpfndaa", sum := "3b13757de7dc1994c36530ce5c5d7ba49fdf5aa035c1db5870e7b4ced2db32b4", func := "loop.example/g00939/laws.FnExactIsAbsence", spec := "fnExactIsAbsence", apart := false }
def FnExactIsAbsenceSaid : Prop := fnExactIsAbsenceRow.holds Try.pinned (OpenSpec.ofChange fnExactIsAbsenceSpec)

/-- ITS FALSE NEIGHBOUR: 'it returns false'. Refute it at one input. -/
def fnExactIsAbsenceWrong : ChangeSpec := { name := "fnExactIsAbsence", fn := fun _ => fun
  | [d1, d2, d3] => { results := [.lit (.bool false)], args := [d1, d2, d3] }
  | _ => none }
def FnExactIsAbsenceWrongFalsely : Prop := fnExactIsAbsenceRow.holds Try.pinned (OpenSpec.ofChange fnExactIsAbsenceWrong)

/-- 'laws.FnExactLackingPerformers': WHATEVER THE INPUT: true; the input reads as it did. -/
def fnExactLackingPerformersSpec : ChangeSpec := { name := "fnExactLackingPerformers", fn := fun _ => fun
  | [d1, d2, d3] => { results := [.lit (.bool true)], args := [d1, d2, d3] }
  | _ => none }
def fnExactLackingPerformersRow : OpenClaim := { program := "ytnfmciehkpfndaa", sum := "3b13757de7dc1994c36530ce5c5d7ba49fdf5aa035c1db5870e7b4ced2db32b4", func := "loop.example/g00939/laws.FnExactLackingPerformers", spec := "fnExactLackingPerformers", apart := false }
def FnExactLackingPerformersSaid : Prop := fnExactLackingPerformersRow.holds Try.pinned (OpenSpec.ofChange fnExactLackingPerformersSpec)

/-- ITS FALSE NEIGHBOUR: 'it returns false'. Refute it at one input. -/
def fnExactLackingPerformersWrong : ChangeSpec := { name := "fnExactLackingPerformers", fn := fun _ => fun
  | [d1, d2, d3] => { results := [.lit (.bool false)], args := [d1, d2, d3] }
  | _ => none }
def FnExactLackingPerformersWrongFalsely : Prop := fnExactLackingPerformersRow.holds Try.pinned (OpenSpec.ofChange fnExactLackingPerformersWrong)

/-- 'laws.FnExactOpenSpots': WHATEVER THE INPUT: true; the input reads as it did. -/
def fnExactOpenSpotsSpec : ChangeSpec := { name := "fnExactOpenSpots", fn := fun _ => fun
  | [d1, d2, d3] => { results := [.lit (.bool true)], args := [d1, d2, d3] }
  | _ => none }
def fnExactOpenSpotsRow : OpenClaim := { program := "ytnfmciehkpfndaa", sum := "3b13757de7dc1994c36530ce5c5d7ba49fdf5aa035c1db5870e7b4ced2db32b4", func := "loop.example/g00939/laws.FnExactOpenSpots", spec := "fnExactOpenSpots", apart := false }
def FnExactOpenSpotsSaid : Prop := fnExactOpenSpotsRow.holds Try.pinned (OpenSpec.ofChange fnExactOpenSpotsSpec)

/-- ITS FALSE NEIGHBOUR: 'it returns false'. Refute it at one input. -/
def fnExactOpenSpotsWrong : ChangeSpec := { name := "fnExactOpenSpots", fn := fun _ => fun
  | [d1, d2, d3] => { results := [.lit (.bool false)], args := [d1, d2, d3] }
  | _ => none }
def FnExactOpenSpotsWrongFalsely : Prop := fnExactOpenSpotsRow.holds Try.pinned (OpenSpec.ofChange fnExactOpenSpotsWrong)

/-- 'laws.FnExactSparePerformers': WHATEVER THE INPUT: true; the input reads as it did. -/
def fnExactSparePerformersSpec : ChangeSpec := { name := "fnExactSparePerformers", fn := fun _ => fun
  | [d1, d2, d3] => { results := [.lit (.bool true)], args := [d1, d2, d3] }
  | _ => none }
def fnExactSparePerformersRow : OpenClaim := { program := "ytnfmciehkpfndaa", sum := "3b13757de7dc1994c36530ce5c5d7ba49fdf5aa035c1db5870e7b4ced2db32b4", func := "loop.example/g00939/laws.FnExactSparePerformers", spec := "fnExactSparePerformers", apart := false }
def FnExactSparePerformersSaid : Prop := fnExactSparePerformersRow.holds Try.pinned (OpenSpec.ofChange fnExactSparePerformersSpec)

/-- ITS FALSE NEIGHBOUR: 'it returns false'. Refute it at one input. -/
def fnExactSparePerformersWrong : ChangeSpec := { name := "fnExactSparePerformers", fn := fun _ => fun
  | [d1, d2, d3] => { results := [.lit (.bool false)], args := [d1, d2, d3] }
  | _ => none }
def FnExactSparePerformersWrongFalsely : Prop := fnExactSparePerformersRow.holds Try.pinned (OpenSpec.ofChange fnExactSparePerformersWrong)

/-- 'laws.FnExactIsCoverOf': WHATEVER THE INPUT: true; the input reads as it did. -/
def fnExactIsCoverOfSpec : ChangeSpec := { name := "fnExactIsCoverOf", fn := fun _ => fun
  | [d1, d2, d3, d4] => { results := [.lit (.bool true)], args := [d1, d2, d3, d4] }
  | _ => none }
def fnExactIsCoverOfRow : OpenClaim := { program := "ytnfmciehkpfndaa", sum := "3b13757de7dc1994c36530ce5c5d7ba49fdf5aa035c1db5870e7b4ced2db32b4", func := "loop.example/g00939/laws.FnExactIsCoverOf", spec := "fnExactIsCoverOf", apart := false }
def FnExactIsCoverOfSaid : Prop := fnExactIsCoverOfRow.holds Try.pinned (OpenSpec.ofChange fnExactIsCoverOfSpec)

/-- ITS FALSE NEIGHBOUR: 'it returns false'. Refute it at one input. -/
def fnExactIsCoverOfWrong : ChangeSpec := { name := "fnExactIsCoverOf", fn := fun _ => fun
  | [d1, d2, d3, d4] => { results := [.lit (.bool false)], args := [d1, d2, d3, d4] }
  | _ => none }
def FnExactIsCoverOfWrongFalsely : Prop := fnExactIsCoverOfRow.holds Try.pinned (OpenSpec.ofChange fnExactIsCoverOfWrong)

/-- 'laws.FnExactCoverSum': WHATEVER THE INPUT: true; the input reads as it did. -/
def fnExactCoverSumSpec : ChangeSpec := { name := "fnExactCoverSum", fn := fun _ => fun
  | [d1, d2, d3, d4] => { results := [.lit (.bool true)], args := [d1, d2, d3, d4] }
  | _ => none }
def fnExactCoverSumRow : OpenClaim := { program := "ytnfmciehkpfndaa", sum := "3b13757de7dc1994c36530ce5c5d7ba49fdf5aa035c1db5870e7b4ced2db32b4", func := "loop.example/g00939/laws.FnExactCoverSum", spec := "fnExactCoverSum", apart := false }
def FnExactCoverSumSaid : Prop := fnExactCoverSumRow.holds Try.pinned (OpenSpec.ofChange fnExactCoverSumSpec)

/-- ITS FALSE NEIGHBOUR: 'it returns false'. Refute it at one input. -/
def fnExactCoverSumWrong : ChangeSpec := { name := "fnExactCoverSum", fn := fun _ => fun
  | [d1, d2, d3, d4] => { results := [.lit (.bool false)], args := [d1, d2, d3, d4] }
  | _ => none }
def FnExactCoverSumWrongFalsely : Prop := fnExactCoverSumRow.holds Try.pinned (OpenSpec.ofChange fnExactCoverSumWrong)

/-- 'laws.FnExactCoveredSpots': WHATEVER THE INPUT: true; the input reads as it did. -/
def fnExactCoveredSpotsSpec : ChangeSpec := { name := "fnExactCoveredSpots", fn := fun _ => fun
  | [d1, d2, d3, d4] => { results := [.lit (.bool true)], args := [d1, d2, d3, d4] }
  | _ => none }
def fnExactCoveredSpotsRow : OpenClaim := { program := "ytnfmciehkpfndaa", sum := "3b13757de7dc1994c36530ce5c5d7ba49fdf5aa035c1db5870e7b4ced2db32b4", func := "loop.example/g00939/laws.FnExactCoveredSpots", spec := "fnExactCoveredSpots", apart := false }
def FnExactCoveredSpotsSaid : Prop := fnExactCoveredSpotsRow.holds Try.pinned (OpenSpec.ofChange fnExactCoveredSpotsSpec)

/-- ITS FALSE NEIGHBOUR: 'it returns false'. Refute it at one input. -/
def fnExactCoveredSpotsWrong : ChangeSpec := { name := "fnExactCoveredSpots", fn := fun _ => fun
  | [d1, d2, d3, d4] => { results := [.lit (.bool false)], args := [d1, d2, d3, d4] }
  | _ => none }
def FnExactCoveredSpotsWrongFalsely : Prop := fnExactCoveredSpotsRow.holds Try.pinned (OpenSpec.ofChange fnExactCoveredSpotsWrong)

/-- 'laws.FnExactWorstAbsence': WHATEVER THE INPUT: true; the input reads as it did. -/
def fnExactWorstAbsenceSpec : ChangeSpec := { name := "fnExactWorstAbsence", fn := fun _ => fun
  | [d1, d2] => { results := [.lit (.bool true)], args := [d1, d2] }
  | _ => none }
def fnExactWorstAbsenceRow : OpenClaim := { program := "ytnfmciehkpfndaa", sum := "3b13757de7dc1994c36530ce5c5d7ba49fdf5aa035c1db5870e7b4ced2db32b4", func := "loop.example/g00939/laws.FnExactWorstAbsence", spec := "fnExactWorstAbsence", apart := false }
def FnExactWorstAbsenceSaid : Prop := fnExactWorstAbsenceRow.holds Try.pinned (OpenSpec.ofChange fnExactWorstAbsenceSpec)

/-- ITS FALSE NEIGHBOUR: 'it returns false'. Refute it at one input. -/
def fnExactWorstAbsenceWrong : ChangeSpec := { name := "fnExactWorstAbsence", fn := fun _ => fun
  | [d1, d2] => { results := [.lit (.bool false)], args := [d1, d2] }
  | _ => none }
def FnExactWorstAbsenceWrongFalsely : Prop := fnExactWorstAbsenceRow.holds Try.pinned (OpenSpec.ofChange fnExactWorstAbsenceWrong)

/-- 'laws.FnExactLeastCoverOf': WHATEVER THE INPUT: true; the input reads as it did. -/
def fnExactLeastCoverOfSpec : ChangeSpec := { name := "fnExactLeastCoverOf", fn := fun _ => fun
  | [d1, d2, d3] => { results := [.lit (.bool true)], args := [d1, d2, d3] }
  | _ => none }
def fnExactLeastCoverOfRow : OpenClaim := { program := "ytnfmciehkpfndaa", sum := "3b13757de7dc1994c36530ce5c5d7ba49fdf5aa035c1db5870e7b4ced2db32b4", func := "loop.example/g00939/laws.FnExactLeastCoverOf", spec := "fnExactLeastCoverOf", apart := false }
def FnExactLeastCoverOfSaid : Prop := fnExactLeastCoverOfRow.holds Try.pinned (OpenSpec.ofChange fnExactLeastCoverOfSpec)

/-- ITS FALSE NEIGHBOUR: 'it returns false'. Refute it at one input. -/
def fnExactLeastCoverOfWrong : ChangeSpec := { name := "fnExactLeastCoverOf", fn := fun _ => fun
  | [d1, d2, d3] => { results := [.lit (.bool false)], args := [d1, d2, d3] }
  | _ => none }
def FnExactLeastCoverOfWrongFalsely : Prop := fnExactLeastCoverOfRow.holds Try.pinned (OpenSpec.ofChange fnExactLeastCoverOfWrong)

/-- 'laws.FnExactRepairLasts': WHATEVER THE INPUT: true; the input reads as it did. -/
def fnExactRepairLastsSpec : ChangeSpec := { name := "fnExactRepairLasts", fn := fun _ => fun
  | [d1, d2] => { results := [.lit (.bool true)], args := [d1, d2] }
  | _ => none }
def fnExactRepairLastsRow : OpenClaim := { program := "ytnfmciehkpfndaa", sum := "3b13757de7dc1994c36530ce5c5d7ba49fdf5aa035c1db5870e7b4ced2db32b4", func := "loop.example/g00939/laws.FnExactRepairLasts", spec := "fnExactRepairLasts", apart := false }
def FnExactRepairLastsSaid : Prop := fnExactRepairLastsRow.holds Try.pinned (OpenSpec.ofChange fnExactRepairLastsSpec)

/-- ITS FALSE NEIGHBOUR: 'it returns false'. Refute it at one input. -/
def fnExactRepairLastsWrong : ChangeSpec := { name := "fnExactRepairLasts", fn := fun _ => fun
  | [d1, d2] => { results := [.lit (.bool false)], args := [d1, d2] }
  | _ => none }
def FnExactRepairLastsWrongFalsely : Prop := fnExactRepairLastsRow.holds Try.pinned (OpenSpec.ofChange fnExactRepairLastsWrong)

/-- 'laws.FnExactStandingAt': WHATEVER THE INPUT: true; the input reads as it did. -/
def fnExactStandingAtSpec : ChangeSpec := { name := "fnExactStandingAt", fn := fun _ => fun
  | [d1, d2, d3] => { results := [.lit (.bool true)], args := [d1, d2, d3] }
  | _ => none }
def fnExactStandingAtRow : OpenClaim := { program := "ytnfmciehkpfndaa", sum := "3b13757de7dc1994c36530ce5c5d7ba49fdf5aa035c1db5870e7b4ced2db32b4", func := "loop.example/g00939/laws.FnExactStandingAt", spec := "fnExactStandingAt", apart := false }
def FnExactStandingAtSaid : Prop := fnExactStandingAtRow.holds Try.pinned (OpenSpec.ofChange fnExactStandingAtSpec)

/-- ITS FALSE NEIGHBOUR: 'it returns false'. Refute it at one input. -/
def fnExactStandingAtWrong : ChangeSpec := { name := "fnExactStandingAt", fn := fun _ => fun
  | [d1, d2, d3] => { results := [.lit (.bool false)], args := [d1, d2, d3] }
  | _ => none }
def FnExactStandingAtWrongFalsely : Prop := fnExactStandingAtRow.holds Try.pinned (OpenSpec.ofChange fnExactStandingAtWrong)

/- THE SECOND FORM. 'bulk': how many values and letters a reading holds, each counted each time it is reached (what is shared counts as often as it is met; a slice's spare places count too). A statement '..UptoSaid' is the law's where the arguments, and the package variables that the reading takes, are together of bulk at most 1048576: NARROWER than '..Said'. Prove '..Said' where nothing that the law and all that it calls make is longer than what came in: it says more and counts as full. Else prove '..UptoSaid'. A law counts once. -/
mutual
def uptoBulk {H : Type} : DataW H → Nat
  | .lit (.string bytes) => bytes.length + 1
  | .lit _ => 1
  | .nil => 1
  | .ptr d => uptoBulk d + 1
  | .slice elems spare => uptoBulkAll elems + uptoBulkAll spare + 1
  | .agg parts => uptoBulkAll parts + 1
  | .iface _ d => uptoBulk d + 1
  | .map entries => uptoBulkEntries entries + 1
  | .held _ => 1
def uptoBulkAll {H : Type} : List (DataW H) → Nat
  | [] => 0
  | d :: r => uptoBulk d + uptoBulkAll r
def uptoBulkEntries {H : Type} : List (Lit × DataW H) → Nat
  | [] => 0
  | x :: r => uptoBulkEntry x + uptoBulkEntries r
def uptoBulkEntry {H : Type} : Lit × DataW H → Nat
  | (.string bytes, d) => bytes.length + uptoBulk d + 1
  | (_, d) => uptoBulk d + 1
 end
def uptoSmall : (H : Type) → List (DataW H) → Bool := fun _ ds => decide (uptoBulkAll ds ≤ 1048576)
def OpenSpec.upto (s : _root_.Go.ChangeSpec) : _root_.Go.OpenSpec := { _root_.Go.OpenSpec.ofChange s with cond := some uptoSmall }

/-- 'laws.FnExactIsAbsence', WHERE WHAT IT READS IS OF BULK AT MOST 1048576: true; the input reads as it did. -/
def fnExactIsAbsenceUptoRow : OpenClaim := { program := "ytnfmciehkpfndaa", sum := "3b13757de7dc1994c36530ce5c5d7ba49fdf5aa035c1db5870e7b4ced2db32b4", func := "loop.example/g00939/laws.FnExactIsAbsence", spec := "fnExactIsAbsence", apart := false, narrowed := true }
def FnExactIsAbsenceUptoSaid : Prop := fnExactIsAbsenceUptoRow.holds Try.pinned (OpenSpec.upto fnExactIsAbsenceSpec)

/-- 'laws.FnExactLackingPerformers', WHERE WHAT IT READS IS OF BULK AT MOST 1048576: true; the input reads as it did. -/
def fnExactLackingPerformersUptoRow : OpenClaim := { program := "ytnfmciehkpfndaa", sum := "3b13757de7dc1994c36530ce5c5d7ba49fdf5aa035c1db5870e7b4ced2db32b4", func := "loop.example/g00939/laws.FnExactLackingPerformers", spec := "fnExactLackingPerformers", apart := false, narrowed := true }
def FnExactLackingPerformersUptoSaid : Prop := fnExactLackingPerformersUptoRow.holds Try.pinned (OpenSpec.upto fnExactLackingPerformersSpec)

/-- 'laws.FnExactOpenSpots', WHERE WHAT IT READS IS OF BULK AT MOST 1048576: true; the input reads as it did. -/
def fnExactOpenSpotsUptoRow : OpenClaim := { program := "ytnfmciehkpfndaa", sum := "3b13757de7dc1994c36530ce5c5d7ba49fdf5aa035c1db5870e7b4ced2db32b4", func := "loop.example/g00939/laws.FnExactOpenSpots", spec := "fnExactOpenSpots", apart := false, narrowed := true }
def FnExactOpenSpotsUptoSaid : Prop := fnExactOpenSpotsUptoRow.holds Try.pinned (OpenSpec.upto fnExactOpenSpotsSpec)

/-- 'laws.FnExactSparePerformers', WHERE WHAT IT READS IS OF BULK AT MOST 1048576: true; the input reads as it did. -/
def fnExactSparePerformersUptoRow : OpenClaim := { program := "ytnfmciehkpfndaa", sum := "3b13757de7dc1994c36530ce5c5d7ba49fdf5aa035c1db5870e7b4ced2db32b4", func := "loop.example/g00939/laws.FnExactSparePerformers", spec := "fnExactSparePerformers", apart := false, narrowed := true }
def FnExactSparePerformersUptoSaid : Prop := fnExactSparePerformersUptoRow.holds Try.pinned (OpenSpec.upto fnExactSparePerformersSpec)

/-- 'laws.FnExactIsCoverOf', WHERE WHAT IT READS IS OF BULK AT MOST 1048576: true; the input reads as it did. -/
def fnExactIsCoverOfUptoRow : OpenClaim := { program := "ytnfmciehkpfndaa", sum := "3b13757de7dc1994c36530ce5c5d7ba49fdf5aa035c1db5870e7b4ced2db32b4", func := "loop.example/g00939/laws.FnExactIsCoverOf", spec := "fnExactIsCoverOf", apart := false, narrowed := true }
def FnExactIsCoverOfUptoSaid : Prop := fnExactIsCoverOfUptoRow.holds Try.pinned (OpenSpec.upto fnExactIsCoverOfSpec)

/-- 'laws.FnExactCoverSum', WHERE WHAT IT READS IS OF BULK AT MOST 1048576: true; the input reads as it did. -/
def fnExactCoverSumUptoRow : OpenClaim := { program := "ytnfmciehkpfndaa", sum := "3b13757de7dc1994c36530ce5c5d7ba49fdf5aa035c1db5870e7b4ced2db32b4", func := "loop.example/g00939/laws.FnExactCoverSum", spec := "fnExactCoverSum", apart := false, narrowed := true }
def FnExactCoverSumUptoSaid : Prop := fnExactCoverSumUptoRow.holds Try.pinned (OpenSpec.upto fnExactCoverSumSpec)

/-- 'laws.FnExactCoveredSpots', WHERE WHAT IT READS IS OF BULK AT MOST 1048576: true; the input reads as it did. -/
def fnExactCoveredSpotsUptoRow : OpenClaim := { program := "ytnfmciehkpfndaa", sum := "3b13757de7dc1994c36530ce5c5d7ba49fdf5aa035c1db5870e7b4ced2db32b4", func := "loop.example/g00939/laws.FnExactCoveredSpots", spec := "fnExactCoveredSpots", apart := false, narrowed := true }
def FnExactCoveredSpotsUptoSaid : Prop := fnExactCoveredSpotsUptoRow.holds Try.pinned (OpenSpec.upto fnExactCoveredSpotsSpec)

/-- 'laws.FnExactWorstAbsence', WHERE WHAT IT READS IS OF BULK AT MOST 1048576: true; the input reads as it did. -/
def fnExactWorstAbsenceUptoRow : OpenClaim := { program := "ytnfmciehkpfndaa", sum := "3b13757de7dc1994c36530ce5c5d7ba49fdf5aa035c1db5870e7b4ced2db32b4", func := "loop.example/g00939/laws.FnExactWorstAbsence", spec := "fnExactWorstAbsence", apart := false, narrowed := true }
def FnExactWorstAbsenceUptoSaid : Prop := fnExactWorstAbsenceUptoRow.holds Try.pinned (OpenSpec.upto fnExactWorstAbsenceSpec)

/-- 'laws.FnExactLeastCoverOf', WHERE WHAT IT READS IS OF BULK AT MOST 1048576: true; the input reads as it did. -/
def fnExactLeastCoverOfUptoRow : OpenClaim := { program := "ytnfmciehkpfndaa", sum := "3b13757de7dc1994c36530ce5c5d7ba49fdf5aa035c1db5870e7b4ced2db32b4", func := "loop.example/g00939/laws.FnExactLeastCoverOf", spec := "fnExactLeastCoverOf", apart := false, narrowed := true }
def FnExactLeastCoverOfUptoSaid : Prop := fnExactLeastCoverOfUptoRow.holds Try.pinned (OpenSpec.upto fnExactLeastCoverOfSpec)

/-- 'laws.FnExactRepairLasts', WHERE WHAT IT READS IS OF BULK AT MOST 1048576: true; the input reads as it did. -/
def fnExactRepairLastsUptoRow : OpenClaim := { program := "ytnfmciehkpfndaa", sum := "3b13757de7dc1994c36530ce5c5d7ba49fdf5aa035c1db5870e7b4ced2db32b4", func := "loop.example/g00939/laws.FnExactRepairLasts", spec := "fnExactRepairLasts", apart := false, narrowed := true }
def FnExactRepairLastsUptoSaid : Prop := fnExactRepairLastsUptoRow.holds Try.pinned (OpenSpec.upto fnExactRepairLastsSpec)

/-- 'laws.FnExactStandingAt', WHERE WHAT IT READS IS OF BULK AT MOST 1048576: true; the input reads as it did. -/
def fnExactStandingAtUptoRow : OpenClaim := { program := "ytnfmciehkpfndaa", sum := "3b13757de7dc1994c36530ce5c5d7ba49fdf5aa035c1db5870e7b4ced2db32b4", func := "loop.example/g00939/laws.FnExactStandingAt", spec := "fnExactStandingAt", apart := false, narrowed := true }
def FnExactStandingAtUptoSaid : Prop := fnExactStandingAtUptoRow.holds Try.pinned (OpenSpec.upto fnExactStandingAtSpec)

end Rows
end Go.Proofs.Ytnfmciehkpfndaa
