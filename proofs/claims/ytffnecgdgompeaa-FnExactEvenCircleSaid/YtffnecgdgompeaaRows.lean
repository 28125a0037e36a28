/-
  No cell of these rows narrows 'for every input' (looked for: loops, veiled, ifaces, maps, wideKeys, modest, calm, conditions, laid).
  DERIVED. THE GIVEN ROWS OF THIS SEAT. 12 by the template 'for every input the law returns true; each argument reads behind the call as it read before'; 0 by the template 'total and deterministic' (their statements: YtffnecgdgompeaaTotals.lean).
  GIVEN WITH THE SEED: the statements are not yours to turn. If you find one false, say at which input.
  Laid BY PROGRAM, IN A SANDBOX (cutbox-rows.mjs): the forced cells as the released guide's own fill.sh prints them over the translation 4bc8a57ea76a4dcb… (all of the seat's roots in one cut). By AI agents, Wed Nov 11 2026. No macro, syntax, notation, axiom, sorry.
-/
import Derived.Test.YtffnecgdgompeaaChecked
import GoSem.Claim
import GoSem.ClaimJoined
import GoSem.ClaimMapViews
import Derived.JoinedTies
import Derived.KernelRfl
namespace Go.Proofs.Ytffnecgdgompeaa
/- THE CELL 'sum', in the pinned program and in every row, IS THE sha256 OF THE DUMP (.gsa) THAT YtffnecgdgompeaaProg.lean LOADS. Nothing in Lean hashes anything: it is a label: what it is worth is what the hold of that sum in a sandbox is worth. -/
noncomputable def Try.pinned : Pinned := { name := "ytffnecgdgompeaa", sum := "4bc8a57ea76a4dcb25fe30978bc859a167c19c5b339fb208058391a2e7a3219f", checked := Try.checked }
namespace Rows
def none {H : Type} : Left H := { results := [], args := [] }

/-- 'laws.FnExactReachSquare': WHATEVER THE INPUT: true; the input reads as it did. -/
def fnExactReachSquareSpec : ChangeSpec := { name := "fnExactReachSquare", fn := fun _ => fun
  | [d] => { results := [.lit (.bool true)], args := [d] }
  | _ => none }
def fnExactReachSquareRow : OpenClaim := { program := "ytffnecgdgompeaa", sum := "4bc8a57ea76a4dcb25fe30978bc859a167c19c5b339fb208058391a2e7a3219f", func := "loop.example/g00939/laws.FnExactReachSquare", spec := "fnExactReachSquare", apart := false }
def FnExactReachSquareSaid : Prop := fnExactReachSquareRow.holds Try.pinned (OpenSpec.ofChange fnExactReachSquareSpec)

/-- ITS FALSE NEIGHBOUR: 'it returns false'. Refute it at one input. -/
def fnExactReachSquareWrong : ChangeSpec := { name := "fnExactReachSquare", fn := fun _ => fun
  | [d] => { results := [.lit (.bool false)], args := [d] }
  | _ => none }
def FnExactReachSquareWrongFalsely : Prop := fnExactReachSquareRow.holds Try.pinned (OpenSpec.ofChange fnExactReachSquareWrong)

/-- 'laws.FnExactSoundTime': WHATEVER THE INPUT: true; the input reads as it did. -/
def fnExactSoundTimeSpec : ChangeSpec := { name := "fnExactSoundTime", fn := fun _ => fun
  | [d1, d2] => { results := [.lit (.bool true)], args := [d1, d2] }
  | _ => none }
def fnExactSoundTimeRow : OpenClaim := { program := "ytffnecgdgompeaa", sum := "4bc8a57ea76a4dcb25fe30978bc859a167c19c5b339fb208058391a2e7a3219f", func := "loop.example/g00939/laws.FnExactSoundTime", spec := "fnExactSoundTime", apart := false }
def FnExactSoundTimeSaid : Prop := fnExactSoundTimeRow.holds Try.pinned (OpenSpec.ofChange fnExactSoundTimeSpec)

/-- ITS FALSE NEIGHBOUR: 'it returns false'. Refute it at one input. -/
def fnExactSoundTimeWrong : ChangeSpec := { name := "fnExactSoundTime", fn := fun _ => fun
  | [d1, d2] => { results := [.lit (.bool false)], args := [d1, d2] }
  | _ => none }
def FnExactSoundTimeWrongFalsely : Prop := fnExactSoundTimeRow.holds Try.pinned (OpenSpec.ofChange fnExactSoundTimeWrong)

/-- 'laws.FnExactAreOffsets': WHATEVER THE INPUT: true; the input reads as it did. -/
def fnExactAreOffsetsSpec : ChangeSpec := { name := "fnExactAreOffsets", fn := fun _ => fun
  | [d] => { results := [.lit (.bool true)], args := [d] }
  | _ => none }
def fnExactAreOffsetsRow : OpenClaim := { program := "ytffnecgdgompeaa", sum := "4bc8a57ea76a4dcb25fe30978bc859a167c19c5b339fb208058391a2e7a3219f", func := "loop.example/g00939/laws.FnExactAreOffsets", spec := "fnExactAreOffsets", apart := false }
def FnExactAreOffsetsSaid : Prop := fnExactAreOffsetsRow.holds Try.pinned (OpenSpec.ofChange fnExactAreOffsetsSpec)

/-- ITS FALSE NEIGHBOUR: 'it returns false'. Refute it at one input. -/
def fnExactAreOffsetsWrong : ChangeSpec := { name := "fnExactAreOffsets", fn := fun _ => fun
  | [d] => { results := [.lit (.bool false)], args := [d] }
  | _ => none }
def FnExactAreOffsetsWrongFalsely : Prop := fnExactAreOffsetsRow.holds Try.pinned (OpenSpec.ofChange fnExactAreOffsetsWrong)

/-- 'laws.FnExactShiftOffsets': WHATEVER THE INPUT: true; the input reads as it did. -/
def fnExactShiftOffsetsSpec : ChangeSpec := { name := "fnExactShiftOffsets", fn := fun _ => fun
  | [d1, d2] => { results := [.lit (.bool true)], args := [d1, d2] }
  | _ => none }
def fnExactShiftOffsetsRow : OpenClaim := { program := "ytffnecgdgompeaa", sum := "4bc8a57ea76a4dcb25fe30978bc859a167c19c5b339fb208058391a2e7a3219f", func := "loop.example/g00939/laws.FnExactShiftOffsets", spec := "fnExactShiftOffsets", apart := false }
def FnExactShiftOffsetsSaid : Prop := fnExactShiftOffsetsRow.holds Try.pinned (OpenSpec.ofChange fnExactShiftOffsetsSpec)

/-- ITS FALSE NEIGHBOUR: 'it returns false'. Refute it at one input. -/
def fnExactShiftOffsetsWrong : ChangeSpec := { name := "fnExactShiftOffsets", fn := fun _ => fun
  | [d1, d2] => { results := [.lit (.bool false)], args := [d1, d2] }
  | _ => none }
def FnExactShiftOffsetsWrongFalsely : Prop := fnExactShiftOffsetsRow.holds Try.pinned (OpenSpec.ofChange fnExactShiftOffsetsWrong)

/-- 'laws.FnExactWorstPair': WHATEVER THE INPUT: true; the input reads as it did. -/
def fnExactWorstPairSpec : ChangeSpec := { name := "fnExactWorstPair", fn := fun _ => fun
  | [d] => { results := [.lit (.bool true)], args := [d] }
  | _ => none }
def fnExactWorstPairRow : OpenClaim := { program := "ytffnecgdgompeaa", sum := "4bc8a57ea76a4dcb25fe30978bc859a167c19c5b339fb208058391a2e7a3219f", func := "loop.example/g00939/laws.FnExactWorstPair", spec := "fnExactWorstPair", apart := false }
def FnExactWorstPairSaid : Prop := fnExactWorstPairRow.holds Try.pinned (OpenSpec.ofChange fnExactWorstPairSpec)

/-- ITS FALSE NEIGHBOUR: 'it returns false'. Refute it at one input. -/
def fnExactWorstPairWrong : ChangeSpec := { name := "fnExactWorstPair", fn := fun _ => fun
  | [d] => { results := [.lit (.bool false)], args := [d] }
  | _ => none }
def FnExactWorstPairWrongFalsely : Prop := fnExactWorstPairRow.holds Try.pinned (OpenSpec.ofChange fnExactWorstPairWrong)

/-- 'laws.FnExactHeardFirst': WHATEVER THE INPUT: true; the input reads as it did. -/
def fnExactHeardFirstSpec : ChangeSpec := { name := "fnExactHeardFirst", fn := fun _ => fun
  | [d1, d2] => { results := [.lit (.bool true)], args := [d1, d2] }
  | _ => none }
def fnExactHeardFirstRow : OpenClaim := { program := "ytffnecgdgompeaa", sum := "4bc8a57ea76a4dcb25fe30978bc859a167c19c5b339fb208058391a2e7a3219f", func := "loop.example/g00939/laws.FnExactHeardFirst", spec := "fnExactHeardFirst", apart := false }
def FnExactHeardFirstSaid : Prop := fnExactHeardFirstRow.holds Try.pinned (OpenSpec.ofChange fnExactHeardFirstSpec)

/-- ITS FALSE NEIGHBOUR: 'it returns false'. Refute it at one input. -/
def fnExactHeardFirstWrong : ChangeSpec := { name := "fnExactHeardFirst", fn := fun _ => fun
  | [d1, d2] => { results := [.lit (.bool false)], args := [d1, d2] }
  | _ => none }
def FnExactHeardFirstWrongFalsely : Prop := fnExactHeardFirstRow.holds Try.pinned (OpenSpec.ofChange fnExactHeardFirstWrong)

/-- 'laws.FnExactSpreadAt': WHATEVER THE INPUT: true; the input reads as it did. -/
def fnExactSpreadAtSpec : ChangeSpec := { name := "fnExactSpreadAt", fn := fun _ => fun
  | [d1, d2] => { results := [.lit (.bool true)], args := [d1, d2] }
  | _ => none }
def fnExactSpreadAtRow : OpenClaim := { program := "ytffnecgdgompeaa", sum := "4bc8a57ea76a4dcb25fe30978bc859a167c19c5b339fb208058391a2e7a3219f", func := "loop.example/g00939/laws.FnExactSpreadAt", spec := "fnExactSpreadAt", apart := false }
def FnExactSpreadAtSaid : Prop := fnExactSpreadAtRow.holds Try.pinned (OpenSpec.ofChange fnExactSpreadAtSpec)

/-- ITS FALSE NEIGHBOUR: 'it returns false'. Refute it at one input. -/
def fnExactSpreadAtWrong : ChangeSpec := { name := "fnExactSpreadAt", fn := fun _ => fun
  | [d1, d2] => { results := [.lit (.bool false)], args := [d1, d2] }
  | _ => none }
def FnExactSpreadAtWrongFalsely : Prop := fnExactSpreadAtRow.holds Try.pinned (OpenSpec.ofChange fnExactSpreadAtWrong)

/-- 'laws.FnExactTogetherAt': WHATEVER THE INPUT: true; the input reads as it did. -/
def fnExactTogetherAtSpec : ChangeSpec := { name := "fnExactTogetherAt", fn := fun _ => fun
  | [d1, d2, d3] => { results := [.lit (.bool true)], args := [d1, d2, d3] }
  | _ => none }
def fnExactTogetherAtRow : OpenClaim := { program := "ytffnecgdgompeaa", sum := "4bc8a57ea76a4dcb25fe30978bc859a167c19c5b339fb208058391a2e7a3219f", func := "loop.example/g00939/laws.FnExactTogetherAt", spec := "fnExactTogetherAt", apart := false }
def FnExactTogetherAtSaid : Prop := fnExactTogetherAtRow.holds Try.pinned (OpenSpec.ofChange fnExactTogetherAtSpec)

/-- ITS FALSE NEIGHBOUR: 'it returns false'. Refute it at one input. -/
def fnExactTogetherAtWrong : ChangeSpec := { name := "fnExactTogetherAt", fn := fun _ => fun
  | [d1, d2, d3] => { results := [.lit (.bool false)], args := [d1, d2, d3] }
  | _ => none }
def FnExactTogetherAtWrongFalsely : Prop := fnExactTogetherAtRow.holds Try.pinned (OpenSpec.ofChange fnExactTogetherAtWrong)

/-- 'laws.FnExactBestListener': WHATEVER THE INPUT: true; the input reads as it did. -/
def fnExactBestListenerSpec : ChangeSpec := { name := "fnExactBestListener", fn := fun _ => fun
  | [d1, d2] => { results := [.lit (.bool true)], args := [d1, d2] }
  | _ => none }
def fnExactBestListenerRow : OpenClaim := { program := "ytffnecgdgompeaa", sum := "4bc8a57ea76a4dcb25fe30978bc859a167c19c5b339fb208058391a2e7a3219f", func := "loop.example/g00939/laws.FnExactBestListener", spec := "fnExactBestListener", apart := false }
def FnExactBestListenerSaid : Prop := fnExactBestListenerRow.holds Try.pinned (OpenSpec.ofChange fnExactBestListenerSpec)

/-- ITS FALSE NEIGHBOUR: 'it returns false'. Refute it at one input. -/
def fnExactBestListenerWrong : ChangeSpec := { name := "fnExactBestListener", fn := fun _ => fun
  | [d1, d2] => { results := [.lit (.bool false)], args := [d1, d2] }
  | _ => none }
def FnExactBestListenerWrongFalsely : Prop := fnExactBestListenerRow.holds Try.pinned (OpenSpec.ofChange fnExactBestListenerWrong)

/-- 'laws.FnExactHeardWithin': WHATEVER THE INPUT: true; the input reads as it did. -/
def fnExactHeardWithinSpec : ChangeSpec := { name := "fnExactHeardWithin", fn := fun _ => fun
  | [d1, d2, d3] => { results := [.lit (.bool true)], args := [d1, d2, d3] }
  | _ => none }
def fnExactHeardWithinRow : OpenClaim := { program := "ytffnecgdgompeaa", sum := "4bc8a57ea76a4dcb25fe30978bc859a167c19c5b339fb208058391a2e7a3219f", func := "loop.example/g00939/laws.FnExactHeardWithin", spec := "fnExactHeardWithin", apart := false }
def FnExactHeardWithinSaid : Prop := fnExactHeardWithinRow.holds Try.pinned (OpenSpec.ofChange fnExactHeardWithinSpec)

/-- ITS FALSE NEIGHBOUR: 'it returns false'. Refute it at one input. -/
def fnExactHeardWithinWrong : ChangeSpec := { name := "fnExactHeardWithin", fn := fun _ => fun
  | [d1, d2, d3] => { results := [.lit (.bool false)], args := [d1, d2, d3] }
  | _ => none }
def FnExactHeardWithinWrongFalsely : Prop := fnExactHeardWithinRow.holds Try.pinned (OpenSpec.ofChange fnExactHeardWithinWrong)

/-- 'laws.FnExactEvenCircle': WHATEVER THE INPUT: true; the input reads as it did. -/
def fnExactEvenCircleSpec : ChangeSpec := { name := "fnExactEvenCircle", fn := fun _ => fun
  | [d1, d2, d3] => { results := [.lit (.bool true)], args := [d1, d2, d3] }
  | _ => none }
def fnExactEvenCircleRow : OpenClaim := { program := "ytffnecgdgompeaa", sum := "4bc8a57ea76a4dcb25fe30978bc859a167c19c5b339fb208058391a2e7a3219f", func := "loop.example/g00939/laws.FnExactEvenCircle", spec := "fnExactEvenCircle", apart := false }
def FnExactEvenCircleSaid : Prop := fnExactEvenCircleRow.holds Try.pinned (OpenSpec.ofChange fnExactEvenCircleSpec)

/-- ITS FALSE NEIGHBOUR: 'it returns false'. Refute it at one input. -/
def fnExactEvenCircleWrong : ChangeSpec := { name := "fnExactEvenCircle", fn := fun _ => fun
  | [d1, d2, d3] => { results := [.lit (.bool false)], args := [d1, d2, d3] }
  | _ => none }
def FnExactEvenCircleWrongFalsely : Prop := fnExactEvenCircleRow.holds Try.pinned (OpenSpec.ofChange fnExactEvenCircleWrong)

/-- 'laws.FnExactHeardTimes': WHATEVER THE INPUT: true; the input reads as it did. -/
def fnExactHeardTimesSpec : ChangeSpec := { name := "fnExactHeardTimes", fn := fun _ => fun
  | [d1, d2, d3] => { results := [.lit (.bool true)], args := [d1, d2, d3] }
  | _ => none }
def fnExactHeardTimesRow : OpenClaim := { program := "ytffnecgdgompeaa", sum := "4bc8a57ea76a4dcb25fe30978bc859a167c19c5b339fb208058391a2e7a3219f", func := "loop.example/g00939/laws.FnExactHeardTimes", spec := "fnExactHeardTimes", apart := false }
def FnExactHeardTimesSaid : Prop := fnExactHeardTimesRow.holds Try.pinned (OpenSpec.ofChange fnExactHeardTimesSpec)

/-- ITS FALSE NEIGHBOUR: 'it returns false'. Refute it at one input. -/
def fnExactHeardTimesWrong : ChangeSpec := { name := "fnExactHeardTimes", fn := fun _ => fun
  | [d1, d2, d3] => { results := [.lit (.bool false)], args := [d1, d2, d3] }
  | _ => none }
def FnExactHeardTimesWrongFalsely : Prop := fnExactHeardTimesRow.holds Try.pinned (OpenSpec.ofChange fnExactHeardTimesWrong)

/- THE SECOND FORM. 'bulk': how many values and letters a reading holds, each counted each time it is reached (what is shared counts as often as it is met; a slice's spare places count too). A statement '..UptoSaid' is the law's where the arguments, and the package variables that the reading takes, are together of bulk at most 1048576: NARROWER than '..Said'. Prove '..Said' where nothing that the law and all that it calls make is longer than what came in: it says more and counts as full. Else prove '..UptoSaid'. A law counts once. -/
mutual
def uptoBulk {H : Type} : DataW H → Nat
  | .lit (.string bytes) => bytes.length + 1
  | .lit _ => 1
  | .nil => 1
  | .ptr d => uptoBulk d + 1
  | .slice elems spare => uptoBulkAll elems + uptoBulkAll spare + 1
  | .agg parts => uptoBulkAll parts + 1
  | .iface _ d => uptoBulk d + 1
  | .map entries => uptoBulkEntries entries + 1
  | .held _ => 1
def uptoBulkAll {H : Type} : List (DataW H) → Nat
  | [] => 0
  | d :: r => uptoBulk d + uptoBulkAll r
def uptoBulkEntries {H : Type} : List (Lit × DataW H) → Nat
  | [] => 0
  | x :: r => uptoBulkEntry x + uptoBulkEntries r
def uptoBulkEntry {H : Type} : Lit × DataW H → Nat
  | (.string bytes, d) => bytes.length + uptoBulk d + 1
  | (_, d) => uptoBulk d + 1
 end
def uptoSmall : (H : Type) → List (DataW H) → Bool := fun _ ds => decide (uptoBulkAll ds ≤ 1048576)
def OpenSpec.upto (s : _root_.Go.ChangeSpec) : _root_.Go.OpenSpec := { _root_.Go.OpenSpec.ofChange s with cond := some uptoSmall }

/-- 'laws.FnExactReachSquare', WHERE WHAT IT READS IS OF BULK AT MOST 1048576: true; the input reads as it did. -/
def fnExactReachSquareUptoRow : OpenClaim := { program := "ytffnecgdgompeaa", sum := "4bc8a57ea76a4dcb25fe30978bc859a167c19c5b339fb208058391a2e7a3219f", func := "loop.example/g00939/laws.FnExactReachSquare", spec := "fnExactReachSquare", apart := false, narrowed := true }
def FnExactReachSquareUptoSaid : Prop := fnExactReachSquareUptoRow.holds Try.pinned (OpenSpec.upto fnExactReachSquareSpec)

/-- 'laws.FnExactSoundTime', WHERE WHAT IT READS IS OF BULK AT MOST 1048576: true; the input reads as it did. -/
def fnExactSoundTimeUptoRow : OpenClaim := { program := "ytffnecgdgompeaa", sum := "4bc8a57ea76a4dcb25fe30978bc859a167c19c5b339fb208058391a2e7a3219f", func := "loop.example/g00939/laws.FnExactSoundTime", spec := "fnExactSoundTime", apart := false, narrowed := true }
def FnExactSoundTimeUptoSaid : Prop := fnExactSoundTimeUptoRow.holds Try.pinned (OpenSpec.upto fnExactSoundTimeSpec)

/-- 'laws.FnExactAreOffsets', WHERE WHAT IT READS IS OF BULK AT MOST 1048576: true; the input reads as it did. -/
def fnExactAreOffsetsUptoRow : OpenClaim := { program := "ytffnecgdgompeaa", sum := "4bc8a57ea76a4dcb25fe30978bc859a167c19c5b339fb208058391a2e7a3219f", func := "loop.example/g00939/laws.FnExactAreOffsets", spec := "fnExactAreOffsets", apart := false, narrowed := true }
def FnExactAreOffsetsUptoSaid : Prop := fnExactAreOffsetsUptoRow.holds Try.pinned (OpenSpec.upto fnExactAreOffsetsSpec)

/-- 'laws.FnExactShiftOffsets', WHERE WHAT IT READS IS OF BULK AT MOST 1048576: true; the input reads as it did. -/
def fnExactShiftOffsetsUptoRow : OpenClaim := { program := "ytffnecgdgompeaa", sum := "4bc8a57ea76a4dcb25fe30978bc859a167c19c5b339fb208058391a2e7a3219f", func := "loop.example/g00939/laws.FnExactShiftOffsets", spec := "fnExactShiftOffsets", apart := false, narrowed := true }
def FnExactShiftOffsetsUptoSaid : Prop := fnExactShiftOffsetsUptoRow.holds Try.pinned (OpenSpec.upto fnExactShiftOffsetsSpec)

/-- 'laws.FnExactWorstPair', WHERE WHAT IT READS IS OF BULK AT MOST 1048576: true; the input reads as it did. -/
def fnExactWorstPairUptoRow : OpenClaim := { program := "ytffnecgdgompeaa", sum := "4bc8a57ea76a4dcb25fe30978bc859a167c19c5b339fb208058391a2e7a3219f", func := "loop.example/g00939/laws.FnExactWorstPair", spec := "fnExactWorstPair", apart := false, narrowed := true }
def FnExactWorstPairUptoSaid : Prop := fnExactWorstPairUptoRow.holds Try.pinned (OpenSpec.upto fnExactWorstPairSpec)

/-- 'laws.FnExactHeardFirst', WHERE WHAT IT READS IS OF BULK AT MOST 1048576: true; the input reads as it did. -/
def fnExactHeardFirstUptoRow : OpenClaim := { program := "ytffnecgdgompeaa", sum := "4bc8a57ea76a4dcb25fe30978bc859a167c19c5b339fb208058391a2e7a3219f", func := "loop.example/g00939/laws.FnExactHeardFirst", spec := "fnExactHeardFirst", apart := false, narrowed := true }
def FnExactHeardFirstUptoSaid : Prop := fnExactHeardFirstUptoRow.holds Try.pinned (OpenSpec.upto fnExactHeardFirstSpec)

/-- 'laws.FnExactSpreadAt', WHERE WHAT IT READS IS OF BULK AT MOST 1048576: true; the input reads as it did. -/
def fnExactSpreadAtUptoRow : OpenClaim := { program := "ytffnecgdgompeaa", sum := "4bc8a57ea76a4dcb25fe30978bc859a167c19c5b339fb208058391a2e7a3219f", func := "loop.example/g00939/laws.FnExactSpreadAt", spec := "fnExactSpreadAt", apart := false, narrowed := true }
def FnExactSpreadAtUptoSaid : Prop := fnExactSpreadAtUptoRow.holds Try.pinned (OpenSpec.upto fnExactSpreadAtSpec)

/-- 'laws.FnExactTogetherAt', WHERE WHAT IT READS IS OF BULK AT MOST 1048576: true; the input reads as it did. -/
def fnExactTogetherAtUptoRow : OpenClaim := { program := "ytffnecgdgompeaa", sum := "4bc8a57ea76a4dcb25fe30978bc859a167c19c5b339fb208058391a2e7a3219f", func := "loop.example/g00939/laws.FnExactTogetherAt", spec := "fnExactTogetherAt", apart := false, narrowed := true }
def FnExactTogetherAtUptoSaid : Prop := fnExactTogetherAtUptoRow.holds Try.pinned (OpenSpec.upto fnExactTogetherAtSpec)

/-- 'laws.FnExactBestListener', WHERE WHAT IT READS IS OF BULK AT MOST 1048576: true; the input reads as it did. -/
def fnExactBestListenerUptoRow : OpenClaim := { program := "ytffnecgdgompeaa", sum := "4bc8a57ea76a4dcb25fe30978bc859a167c19c5b339fb208058391a2e7a3219f", func := "loop.example/g00939/laws.FnExactBestListener", spec := "fnExactBestListener", apart := false, narrowed := true }
def FnExactBestListenerUptoSaid : Prop := fnExactBestListenerUptoRow.holds Try.pinned (OpenSpec.upto fnExactBestListenerSpec)

/-- 'laws.FnExactHeardWithin', WHERE WHAT IT READS IS OF BULK AT MOST 1048576: true; the input reads as it did. -/
def fnExactHeardWithinUptoRow : OpenClaim := { program := "ytffnecgdgompeaa", sum := "4bc8a57ea76a4dcb25fe30978bc859a167c19c5b339fb208058391a2e7a3219f", func := "loop.example/g00939/laws.FnExactHeardWithin", spec := "fnExactHeardWithin", apart := false, narrowed := true }
def FnExactHeardWithinUptoSaid : Prop := fnExactHeardWithinUptoRow.holds Try.pinned (OpenSpec.upto fnExactHeardWithinSpec)

/-- 'laws.FnExactEvenCircle', WHERE WHAT IT READS IS OF BULK AT MOST 1048576: true; the input reads as it did. -/
def fnExactEvenCircleUptoRow : OpenClaim := { program := "ytffnecgdgompeaa", sum := "4bc8a57ea76a4dcb25fe30978bc859a167c19c5b339fb208058391a2e7a3219f", func := "loop.example/g00939/laws.FnExactEvenCircle", spec := "fnExactEvenCircle", apart := false, narrowed := true }
def FnExactEvenCircleUptoSaid : Prop := fnExactEvenCircleUptoRow.holds Try.pinned (OpenSpec.upto fnExactEvenCircleSpec)

/-- 'laws.FnExactHeardTimes', WHERE WHAT IT READS IS OF BULK AT MOST 1048576: true; the input reads as it did. -/
def fnExactHeardTimesUptoRow : OpenClaim := { program := "ytffnecgdgompeaa", sum := "4bc8a57ea76a4dcb25fe30978bc859a167c19c5b339fb208058391a2e7a3219f", func := "loop.example/g00939/laws.FnExactHeardTimes", spec := "fnExactHeardTimes", apart := false, narrowed := true }
def FnExactHeardTimesUptoSaid : Prop := fnExactHeardTimesUptoRow.holds Try.pinned (OpenSpec.upto fnExactHeardTimesSpec)

end Rows
end Go.Proofs.Ytffnecgdgompeaa
