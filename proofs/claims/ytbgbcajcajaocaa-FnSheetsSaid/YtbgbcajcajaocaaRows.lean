/-
  No cell of these rows narrows 'for every input' (looked for: loops, veiled, ifaces, maps, wideKeys, modest, calm, conditions, laid).
  DERIVED. THE GIVEN ROWS OF THIS SEAT. 3 by the template 'for every input the law returns true; each argument reads behind the call as it read before'; 0 by the template 'total and deterministic' (their statements: YtbgbcajcajaocaaTotals.lean).
  GIVEN WITH THE SEED: the statements are not yours to turn. If you find one false, say at which input.
  Laid BY PROGRAM, IN A SANDBOX (cutbox-rows.mjs): the forced cells as the released guide's own fill.sh prints them over the translation 781f12c85d70a7dd… (all of the seat's roots in one cut). By AI agents, Wed Nov 11 2026. No macro, syntax, notation, axiom, sorry.
-/
import Derived.Test.YtbgbcajcajaocaaChecked
import GoSem.Claim
import GoSem.ClaimJoined
import GoSem.ClaimMapViews
import Derived.JoinedTies
import Derived.KernelRfl
namespace Go.Proofs.Ytbgbcajcajaocaa
/- THE CELL 'sum', in the pinned program and in every row, IS THE sha256 OF THE DUMP (.gsa) THAT YtbgbcajcajaocaaProg.lean LOADS. Nothing in Lean hashes anything: it is a label: what it is worth is what the hold of that sum in a sandbox is worth. -/
noncomputable def Try.pinned : Pinned := { name := "ytbgbcajcajaocaa", sum := "781f12c85d70a7ddc4fb5977a2b211727253f77f2d275c032caf5d5044487fcd", checked := Try.checked }
namespace Rows
def none {H : Type} : Left H := { results := [], args := [] }

/-- 'laws.FnExactSheetOf': WHATEVER THE INPUT: true; the input reads as it did. -/
def fnExactSheetOfSpec : ChangeSpec := { name := "fnExactSheetOf", fn := fun _ => fun
  | [d1, d2, d3] => { results := [.lit (.bool true)], args := [d1, d2, d3] }
  | _ => none }
def fnExactSheetOfRow : OpenClaim := { program := "ytbgbcajcajaocaa", sum := "781f12c85d70a7ddc4fb5977a2b211727253f77f2d275c032caf5d5044487fcd", func := "loop.example/g00939/laws.FnExactSheetOf", spec := "fnExactSheetOf", apart := false }
def FnExactSheetOfSaid : Prop := fnExactSheetOfRow.holds Try.pinned (OpenSpec.ofChange fnExactSheetOfSpec)

/-- ITS FALSE NEIGHBOUR: 'it returns false'. Refute it at one input. -/
def fnExactSheetOfWrong : ChangeSpec := { name := "fnExactSheetOf", fn := fun _ => fun
  | [d1, d2, d3] => { results := [.lit (.bool false)], args := [d1, d2, d3] }
  | _ => none }
def FnExactSheetOfWrongFalsely : Prop := fnExactSheetOfRow.holds Try.pinned (OpenSpec.ofChange fnExactSheetOfWrong)

/-- 'laws.FnExactChartsOf': WHATEVER THE INPUT: true; the input reads as it did. -/
def fnExactChartsOfSpec : ChangeSpec := { name := "fnExactChartsOf", fn := fun _ => fun
  | [d] => { results := [.lit (.bool true)], args := [d] }
  | _ => none }
def fnExactChartsOfRow : OpenClaim := { program := "ytbgbcajcajaocaa", sum := "781f12c85d70a7ddc4fb5977a2b211727253f77f2d275c032caf5d5044487fcd", func := "loop.example/g00939/laws.FnExactChartsOf", spec := "fnExactChartsOf", apart := false }
def FnExactChartsOfSaid : Prop := fnExactChartsOfRow.holds Try.pinned (OpenSpec.ofChange fnExactChartsOfSpec)

/-- ITS FALSE NEIGHBOUR: 'it returns false'. Refute it at one input. -/
def fnExactChartsOfWrong : ChangeSpec := { name := "fnExactChartsOf", fn := fun _ => fun
  | [d] => { results := [.lit (.bool false)], args := [d] }
  | _ => none }
def FnExactChartsOfWrongFalsely : Prop := fnExactChartsOfRow.holds Try.pinned (OpenSpec.ofChange fnExactChartsOfWrong)

/-- 'laws.FnSheets': WHATEVER THE INPUT: true; the input reads as it did. -/
def fnSheetsSpec : ChangeSpec := { name := "fnSheets", fn := fun _ => fun
  | [d1, d2] => { results := [.lit (.bool true)], args := [d1, d2] }
  | _ => none }
def fnSheetsRow : OpenClaim := { program := "ytbgbcajcajaocaa", sum := "781f12c85d70a7ddc4fb5977a2b211727253f77f2d275c032caf5d5044487fcd", func := "loop.example/g00939/laws.FnSheets", spec := "fnSheets", apart := false }
def FnSheetsSaid : Prop := fnSheetsRow.holds Try.pinned (OpenSpec.ofChange fnSheetsSpec)

/-- ITS FALSE NEIGHBOUR: 'it returns false'. Refute it at one input. -/
def fnSheetsWrong : ChangeSpec := { name := "fnSheets", fn := fun _ => fun
  | [d1, d2] => { results := [.lit (.bool false)], args := [d1, d2] }
  | _ => none }
def FnSheetsWrongFalsely : Prop := fnSheetsRow.holds Try.pinned (OpenSpec.ofChange fnSheetsWrong)

/- THE SECOND FORM. 'bulk': how many values and letters a reading holds, each counted each time it is reached (what is shared counts as often as it is met; a slice's spare places count too). A statement '..UptoSaid' is the law's where the arguments, and the package variables that the reading takes, are together of bulk at most 1048576: NARROWER than '..Said'. Prove '..Said' where nothing that the law and all that it calls make is longer than what came in: it says more and counts as full. Else prove '..UptoSaid'. A law counts once. -/
mutual
def uptoBulk {H : Type} : DataW H → Nat
  | .lit (.string bytes) => bytes.length + 1
  | .lit _ => 1
  | .nil => 1
  | .ptr d => uptoBulk d + 1
  | .slice elems spare => uptoBulkAll elems + uptoBulkAll spare + 1
  | .agg parts => uptoBulkAll parts + 1
  | .iface _ d => uptoBulk d + 1
  | .map entries => uptoBulkEntries entries + 1
  | .held _ => 1
def uptoBulkAll {H : Type} : List (DataW H) → Nat
  | [] => 0
  | d :: r => uptoBulk d + uptoBulkAll r
def uptoBulkEntries {H : Type} : List (Lit × DataW H) → Nat
  | [] => 0
  | x :: r => uptoBulkEntry x + uptoBulkEntries r
def uptoBulkEntry {H : Type} : Lit × DataW H → Nat
  | (.string bytes, d) => bytes.length + uptoBulk d + 1
  | (_, d) => uptoBulk d + 1
 end
def uptoSmall : (H : Type) → List (DataW H) → Bool := fun _ ds => decide (uptoBulkAll ds ≤ 1048576)
def OpenSpec.upto (s : _root_.Go.ChangeSpec) : _root_.Go.OpenSpec := { _root_.Go.OpenSpec.ofChange s with cond := some uptoSmall }

/-- 'laws.FnExactSheetOf', WHERE WHAT IT READS IS OF BULK AT MOST 1048576: true; the input reads as it did. -/
def fnExactSheetOfUptoRow : OpenClaim := { program := "ytbgbcajcajaocaa", sum := "781f12c85d70a7ddc4fb5977a2b211727253f77f2d275c032caf5d5044487fcd", func := "loop.example/g00939/laws.FnExactSheetOf", spec := "fnExactSheetOf", apart := false, narrowed := true }
def FnExactSheetOfUptoSaid : Prop := fnExactSheetOfUptoRow.holds Try.pinned (OpenSpec.upto fnExactSheetOfSpec)

/-- 'laws.FnExactChartsOf', WHERE WHAT IT READS IS OF BULK AT MOST 1048576: true; the input reads as it did. -/
def fnExactChartsOfUptoRow : OpenClaim := { program := "ytbgbcajcajaocaa", sum := "781f12c85d70a7ddc4fb5977a2b211727253f77f2d275c032caf5d5044487fcd", func := "loop.example/g00939/laws.FnExactChartsOf", spec := "fnExactChartsOf", apart := false, narrowed := true }
def FnExactChartsOfUptoSaid : Prop := fnExactChartsOfUptoRow.holds Try.pinned (OpenSpec.upto fnExactChartsOfSpec)

/-- 'laws.FnSheets', WHERE WHAT IT READS IS OF BULK AT MOST 1048576: true; the input reads as it did. -/
def fnSheetsUptoRow : OpenClaim := { program := "ytbgbcajcajaocaa", sum := "781f12c85d70a7ddc4fb5977a2b211727253f77f2d275c032caf5d5044487fcd", func := "loop.example/g00939/laws.FnSheets", spec := "fnSheets", apart := false, narrowed := true }
def FnSheetsUptoSaid : Prop := fnSheetsUptoRow.holds Try.pinned (OpenSpec.upto fnSheetsSpec)

end Rows
end Go.Proofs.Ytbgbcajcajaocaa
