/-
  No cell of these rows narrows 'for every input' (looked for: loops, veiled, ifaces, maps, wideKeys, modest, calm, conditions, laid).
  DERIVED. THE GIVEN ROWS OF THIS SEAT. 4 by the template 'for every input the law returns true; each argument reads behind the call as it read before'; 0 by the template 'total and deterministic' (their statements: YthppancpecjegaaTotals.lean).
  GIVEN WITH THE SEED: the statements are not yours to turn. If you find one false, say at which input.
  Laid BY PROGRAM, IN A SANDBOX (cutbox-rows.mjs): the forced cells as the released guide's own fill.sh prints them over the translation 03e823309c690510… (all of the seat's roots in one cut). By AI agents, Wed Nov 11 2026. No macro, syntax, notation, axiom, sorry.
-/
import Derived.Test.YthppancpecjegaaChecked
import GoSem.Claim
import GoSem.ClaimJoined
import GoSem.ClaimMapViews
import Derived.JoinedTies
import Derived.KernelRfl
namespace Go.Proofs.Ythppancpecjegaa
/- THE CELL 'sum', in the pinned program and in every row, IS THE sha256 OF THE DUMP (.gsa) THAT YthppancpecjegaaProg.lean LOADS. Nothing in Lean hashes anything: it is a label: what it is worth is what the hold of that sum in a sandbox is worth. -/
noncomputable def Try.pinned : Pinned := { name := "ythppancpecjegaa", sum := "03e823309c69051088226512d17741264d8ee49987e57df7ab24a59aef6e9d7b", checked := Try.checked }
namespace Rows
def none {H : Type} : Left H := { results := [], args := [] }

/-- 'laws.FnExactWorstAbsence': WHATEVER THE INPUT: true; the input reads as it did. -/
def fnExactWorstAbsenceSpec : ChangeSpec := { name := "fnExactWorstAbsence", fn := fun _ => fun
  | [d1, d2] => { results := [.lit (.bool true)], args := [d1, d2] }
  | _ => none }
def fnExactWorstAbsenceRow : OpenClaim := { program := "ythppancpecjegaa", sum := "03e823309c69051088226512d17741264d8ee49987e57df7ab24a59aef6e9d7b", func := "loop.example/g00939/laws.FnExactWorstAbsence", spec := "fnExactWorstAbsence", apart := false }
def FnExactWorstAbsenceSaid : Prop := fnExactWorstAbsenceRow.holds Try.pinned (OpenSpec.ofChange fnExactWorstAbsenceSpec)

/-- ITS FALSE NEIGHBOUR: 'it returns false'. Refute it at one input. -/
def fnExactWorstAbsenceWrong : ChangeSpec := { name := "fnExactWorstAbsence", fn := fun _ => fun
  | [d1, d2] => { results := [.lit (.bool false)], args := [d1, d2] }
  | _ => none }
def FnExactWorstAbsenceWrongFalsely : Prop := fnExactWorstAbsenceRow.holds Try.pinned (OpenSpec.ofChange fnExactWorstAbsenceWrong)

/-- 'laws.FnExactLeastCoverOf': WHATEVER THE INPUT: true; the input reads as it did. -/
def fnExactLeastCoverOfSpec : ChangeSpec := { name := "fnExactLeastCoverOf", fn := fun _ => fun
  | [d1, d2, d3] => { results := [.lit (.bool true)], args := [d1, d2, d3] }
  | _ => none }
def fnExactLeastCoverOfRow : OpenClaim := { program := "ythppancpecjegaa", sum := "03e823309c69051088226512d17741264d8ee49987e57df7ab24a59aef6e9d7b", func := "loop.example/g00939/laws.FnExactLeastCoverOf", spec := "fnExactLeastCoverOf", apart := false }
def FnExactLeastCoverOfSaid : Prop := fnExactLeastCoverOfRow.holds Try.pinned (OpenSpec.ofChange fnExactLeastCoverOfSpec)

/-- ITS FALSE NEIGHBOUR: 'it returns false'. Refute it at one input. -/
def fnExactLeastCoverOfWrong : ChangeSpec := { name := "fnExactLeastCoverOf", fn := fun _ => fun
  | [d1, d2, d3] => { results := [.lit (.bool false)], args := [d1, d2, d3] }
  | _ => none }
def FnExactLeastCoverOfWrongFalsely : Prop := fnExactLeastCoverOfRow.holds Try.pinned (OpenSpec.ofChange fnExactLeastCoverOfWrong)

/-- 'laws.FnAbsences': WHATEVER THE INPUT: true; the input reads as it did. -/
def fnAbsencesSpec : ChangeSpec := { name := "fnAbsences", fn := fun _ => fun
  | [d1, d2] => { results := [.lit (.bool true)], args := [d1, d2] }
  | _ => none }
def fnAbsencesRow : OpenClaim := { program := "ythppancpecjegaa", sum := "03e823309c69051088226512d17741264d8ee49987e57df7ab24a59aef6e9d7b", func := "loop.example/g00939/laws.FnAbsences", spec := "fnAbsences", apart := false }
def FnAbsencesSaid : Prop := fnAbsencesRow.holds Try.pinned (OpenSpec.ofChange fnAbsencesSpec)

/-- ITS FALSE NEIGHBOUR: 'it returns false'. Refute it at one input. -/
def fnAbsencesWrong : ChangeSpec := { name := "fnAbsences", fn := fun _ => fun
  | [d1, d2] => { results := [.lit (.bool false)], args := [d1, d2] }
  | _ => none }
def FnAbsencesWrongFalsely : Prop := fnAbsencesRow.holds Try.pinned (OpenSpec.ofChange fnAbsencesWrong)

/-- 'laws.FnCoversOf': WHATEVER THE INPUT: true; the input reads as it did. -/
def fnCoversOfSpec : ChangeSpec := { name := "fnCoversOf", fn := fun _ => fun
  | [d1, d2] => { results := [.lit (.bool true)], args := [d1, d2] }
  | _ => none }
def fnCoversOfRow : OpenClaim := { program := "ythppancpecjegaa", sum := "03e823309c69051088226512d17741264d8ee49987e57df7ab24a59aef6e9d7b", func := "loop.example/g00939/laws.FnCoversOf", spec := "fnCoversOf", apart := false }
def FnCoversOfSaid : Prop := fnCoversOfRow.holds Try.pinned (OpenSpec.ofChange fnCoversOfSpec)

/-- ITS FALSE NEIGHBOUR: 'it returns false'. Refute it at one input. -/
def fnCoversOfWrong : ChangeSpec := { name := "fnCoversOf", fn := fun _ => fun
  | [d1, d2] => { results := [.lit (.bool false)], args := [d1, d2] }
  | _ => none }
def FnCoversOfWrongFalsely : Prop := fnCoversOfRow.holds Try.pinned (OpenSpec.ofChange fnCoversOfWrong)

/- THE SECOND FORM. 'bulk': how many values and letters a reading holds, each counted each time it is reached (what is shared counts as often as it is met; a slice's spare places count too). A statement '..UptoSaid' is the law's where the arguments, and the package variables that the reading takes, are together of bulk at most 1048576: NARROWER than '..Said'. Prove '..Said' where nothing that the law and all that it calls make is longer than what came in: it says more and counts as full. Else prove '..UptoSaid'. A law counts once. -/
mutual
def uptoBulk {H : Type} : DataW H → Nat
  | .lit (.string bytes) => bytes.length + 1
  | .lit _ => 1
  | .nil => 1
  | .ptr d => uptoBulk d + 1
  | .slice elems spare => uptoBulkAll elems + uptoBulkAll spare + 1
  | .agg parts => uptoBulkAll parts + 1
  | .iface _ d => uptoBulk d + 1
  | .map entries => uptoBulkEntries entries + 1
  | .held _ => 1
def uptoBulkAll {H : Type} : List (DataW H) → Nat
  | [] => 0
  | d :: r => uptoBulk d + uptoBulkAll r
def uptoBulkEntries {H : Type} : List (Lit × DataW H) → Nat
  | [] => 0
  | x :: r => uptoBulkEntry x + uptoBulkEntries r
def uptoBulkEntry {H : Type} : Lit × DataW H → Nat
  | (.string bytes, d) => bytes.length + uptoBulk d + 1
  | (_, d) => uptoBulk d + 1
 end
def uptoSmall : (H : Type) → List (DataW H) → Bool := fun _ ds => decide (uptoBulkAll ds ≤ 1048576)
def OpenSpec.upto (s : _root_.Go.ChangeSpec) : _root_.Go.OpenSpec := { _root_.Go.OpenSpec.ofChange s with cond := some uptoSmall }

/-- 'laws.FnExactWorstAbsence', WHERE WHAT IT READS IS OF BULK AT MOST 1048576: true; the input reads as it did. -/
def fnExactWorstAbsenceUptoRow : OpenClaim := { program := "ythppancpecjegaa", sum := "03e823309c69051088226512d17741264d8ee49987e57df7ab24a59aef6e9d7b", func := "loop.example/g00939/laws.FnExactWorstAbsence", spec := "fnExactWorstAbsence", apart := false, narrowed := true }
def FnExactWorstAbsenceUptoSaid : Prop := fnExactWorstAbsenceUptoRow.holds Try.pinned (OpenSpec.upto fnExactWorstAbsenceSpec)

/-- 'laws.FnExactLeastCoverOf', WHERE WHAT IT READS IS OF BULK AT MOST 1048576: true; the input reads as it did. -/
def fnExactLeastCoverOfUptoRow : OpenClaim := { program := "ythppancpecjegaa", sum := "03e823309c69051088226512d17741264d8ee49987e57df7ab24a59aef6e9d7b", func := "loop.example/g00939/laws.FnExactLeastCoverOf", spec := "fnExactLeastCoverOf", apart := false, narrowed := true }
def FnExactLeastCoverOfUptoSaid : Prop := fnExactLeastCoverOfUptoRow.holds Try.pinned (OpenSpec.upto fnExactLeastCoverOfSpec)

/-- 'laws.FnAbsences', WHERE WHAT IT READS IS OF BULK AT MOST 1048576: true; the input reads as it did. -/
def fnAbsencesUptoRow : OpenClaim := { program := "ythppancpecjegaa", sum := "03e823309c69051088226512d17741264d8ee49987e57df7ab24a59aef6e9d7b", func := "loop.example/g00939/laws.FnAbsences", spec := "fnAbsences", apart := false, narrowed := true }
def FnAbsencesUptoSaid : Prop := fnAbsencesUptoRow.holds Try.pinned (OpenSpec.upto fnAbsencesSpec)

/-- 'laws.FnCoversOf', WHERE WHAT IT READS IS OF BULK AT MOST 1048576: true; the input reads as it did. -/
def fnCoversOfUptoRow : OpenClaim := { program := "ythppancpecjegaa", sum := "03e823309c69051088226512d17741264d8ee49987e57df7ab24a59aef6e9d7b", func := "loop.example/g00939/laws.FnCoversOf", spec := "fnCoversOf", apart := false, narrowed := true }
def FnCoversOfUptoSaid : Prop := fnCoversOfUptoRow.holds Try.pinned (OpenSpec.upto fnCoversOfSpec)

end Rows
end Go.Proofs.Ythppancpecjegaa
