/-
  No cell of these rows narrows 'for every input' (looked for: loops, veiled, ifaces, maps, wideKeys, modest, calm, conditions, laid).
  DERIVED. THE GIVEN ROWS OF THIS SEAT. 4 by the template 'for every input the law returns true; each argument reads behind the call as it read before'; 0 by the template 'total and deterministic' (their statements: YtdipmjflgjlfeaaTotals.lean).
  GIVEN WITH THE SEED: the statements are not yours to turn. If you find one false, say at which input.
  Laid BY PROGRAM, IN A SANDBOX (cutbox-rows.mjs): the forced cells as the released guide's own fill.sh prints them over the translation 173d08ea89cf1900… (all of the seat's roots in one cut). By AI agents, Wed Nov 11 2026. No macro, syntax, notation, axiom, sorry.
-/
import Derived.Test.YtdipmjflgjlfeaaChecked
import GoSem.Claim
import GoSem.ClaimJoined
import GoSem.ClaimMapViews
import Derived.JoinedTies
import Derived.KernelRfl
namespace Go.Proofs.Ytdipmjflgjlfeaa
/- THE CELL 'sum', in the pinned program and in every row, IS THE sha256 OF THE DUMP (.gsa) THAT YtdipmjflgjlfeaaProg.lean LOADS. Nothing in Lean hashes anything: it is a label: what it is worth is what the hold of that sum in a sandbox is worth. -/
noncomputable def Try.pinned : Pinned := { name := "ytdipmjflgjlfeaa", sum := "173d08ea89cf19000ef6a278995ee0f9eaa5dd5b7690af8047e8b0f38a8163bb", checked := Try.checked }
namespace Rows
def none {H : Type} : Left H := { results := [], args := [] }

/-- 'laws.FnSound': WHATEVER THE INPUT: true; the input reads as it did. -/
def fnSoundSpec : ChangeSpec := { name := "fnSound", fn := fun _ => fun
  | [d1, d2] => { results := [.lit (.bool true)], args := [d1, d2] }
  | _ => none }
def fnSoundRow : OpenClaim := { program := "ytdipmjflgjlfeaa", sum := "173d08ea89cf19000ef6a278995ee0f9eaa5dd5b7690af8047e8b0f38a8163bb", func := "loop.example/g00939/laws.FnSound", spec := "fnSound", apart := false }
def FnSoundSaid : Prop := fnSoundRow.holds Try.pinned (OpenSpec.ofChange fnSoundSpec)

/-- ITS FALSE NEIGHBOUR: 'it returns false'. Refute it at one input. -/
def fnSoundWrong : ChangeSpec := { name := "fnSound", fn := fun _ => fun
  | [d1, d2] => { results := [.lit (.bool false)], args := [d1, d2] }
  | _ => none }
def FnSoundWrongFalsely : Prop := fnSoundRow.holds Try.pinned (OpenSpec.ofChange fnSoundWrong)

/-- 'laws.FnListening': WHATEVER THE INPUT: true; the input reads as it did. -/
def fnListeningSpec : ChangeSpec := { name := "fnListening", fn := fun _ => fun
  | [d1, d2] => { results := [.lit (.bool true)], args := [d1, d2] }
  | _ => none }
def fnListeningRow : OpenClaim := { program := "ytdipmjflgjlfeaa", sum := "173d08ea89cf19000ef6a278995ee0f9eaa5dd5b7690af8047e8b0f38a8163bb", func := "loop.example/g00939/laws.FnListening", spec := "fnListening", apart := false }
def FnListeningSaid : Prop := fnListeningRow.holds Try.pinned (OpenSpec.ofChange fnListeningSpec)

/-- ITS FALSE NEIGHBOUR: 'it returns false'. Refute it at one input. -/
def fnListeningWrong : ChangeSpec := { name := "fnListening", fn := fun _ => fun
  | [d1, d2] => { results := [.lit (.bool false)], args := [d1, d2] }
  | _ => none }
def FnListeningWrongFalsely : Prop := fnListeningRow.holds Try.pinned (OpenSpec.ofChange fnListeningWrong)

/-- 'laws.FnListeners': WHATEVER THE INPUT: true; the input reads as it did. -/
def fnListenersSpec : ChangeSpec := { name := "fnListeners", fn := fun _ => fun
  | [d1, d2] => { results := [.lit (.bool true)], args := [d1, d2] }
  | _ => none }
def fnListenersRow : OpenClaim := { program := "ytdipmjflgjlfeaa", sum := "173d08ea89cf19000ef6a278995ee0f9eaa5dd5b7690af8047e8b0f38a8163bb", func := "loop.example/g00939/laws.FnListeners", spec := "fnListeners", apart := false }
def FnListenersSaid : Prop := fnListenersRow.holds Try.pinned (OpenSpec.ofChange fnListenersSpec)

/-- ITS FALSE NEIGHBOUR: 'it returns false'. Refute it at one input. -/
def fnListenersWrong : ChangeSpec := { name := "fnListeners", fn := fun _ => fun
  | [d1, d2] => { results := [.lit (.bool false)], args := [d1, d2] }
  | _ => none }
def FnListenersWrongFalsely : Prop := fnListenersRow.holds Try.pinned (OpenSpec.ofChange fnListenersWrong)

/-- 'laws.FnPlaces': WHATEVER THE INPUT: true; the input reads as it did. -/
def fnPlacesSpec : ChangeSpec := { name := "fnPlaces", fn := fun _ => fun
  | [d1, d2] => { results := [.lit (.bool true)], args := [d1, d2] }
  | _ => none }
def fnPlacesRow : OpenClaim := { program := "ytdipmjflgjlfeaa", sum := "173d08ea89cf19000ef6a278995ee0f9eaa5dd5b7690af8047e8b0f38a8163bb", func := "loop.example/g00939/laws.FnPlaces", spec := "fnPlaces", apart := false }
def FnPlacesSaid : Prop := fnPlacesRow.holds Try.pinned (OpenSpec.ofChange fnPlacesSpec)

/-- ITS FALSE NEIGHBOUR: 'it returns false'. Refute it at one input. -/
def fnPlacesWrong : ChangeSpec := { name := "fnPlaces", fn := fun _ => fun
  | [d1, d2] => { results := [.lit (.bool false)], args := [d1, d2] }
  | _ => none }
def FnPlacesWrongFalsely : Prop := fnPlacesRow.holds Try.pinned (OpenSpec.ofChange fnPlacesWrong)

/- THE SECOND FORM. 'bulk': how many values and letters a reading holds, each counted each time it is reached (what is shared counts as often as it is met; a slice's spare places count too). A statement '..UptoSaid' is the law's where the arguments, and the package variables that the reading takes, are together of bulk at most 1048576: NARROWER than '..Said'. Prove '..Said' where nothing that the law and all that it calls make is longer than what came in: it says more and counts as full. Else prove '..UptoSaid'. A law counts once. -/
mutual
def uptoBulk {H : Type} : DataW H → Nat
  | .lit (.string bytes) => bytes.length + 1
  | .lit _ => 1
  | .nil => 1
  | .ptr d => uptoBulk d + 1
  | .slice elems spare => uptoBulkAll elems + uptoBulkAll spare + 1
  | .agg parts => uptoBulkAll parts + 1
  | .iface _ d => uptoBulk d + 1
  | .map entries => uptoBulkEntries entries + 1
  | .held _ => 1
def uptoBulkAll {H : Type} : List (DataW H) → Nat
  | [] => 0
  | d :: r => uptoBulk d + uptoBulkAll r
def uptoBulkEntries {H : Type} : List (Lit × DataW H) → Nat
  | [] => 0
  | x :: r => uptoBulkEntry x + uptoBulkEntries r
def uptoBulkEntry {H : Type} : Lit × DataW H → Nat
  | (.string bytes, d) => bytes.length + uptoBulk d + 1
  | (_, d) => uptoBulk d + 1
 end
def uptoSmall : (H : Type) → List (DataW H) → Bool := fun _ ds => decide (uptoBulkAll ds ≤ 1048576)
def OpenSpec.upto (s : _root_.Go.ChangeSpec) : _root_.Go.OpenSpec := { _root_.Go.OpenSpec.ofChange s with cond := some uptoSmall }

/-- 'laws.FnSound', WHERE WHAT IT READS IS OF BULK AT MOST 1048576: true; the input reads as it did. -/
def fnSoundUptoRow : OpenClaim := { program := "ytdipmjflgjlfeaa", sum := "173d08ea89cf19000ef6a278995ee0f9eaa5dd5b7690af8047e8b0f38a8163bb", func := "loop.example/g00939/laws.FnSound", spec := "fnSound", apart := false, narrowed := true }
def FnSoundUptoSaid : Prop := fnSoundUptoRow.holds Try.pinned (OpenSpec.upto fnSoundSpec)

/-- 'laws.FnListening', WHERE WHAT IT READS IS OF BULK AT MOST 1048576: true; the input reads as it did. -/
def fnListeningUptoRow : OpenClaim := { program := "ytdipmjflgjlfeaa", sum := "173d08ea89cf19000ef6a278995ee0f9eaa5dd5b7690af8047e8b0f38a8163bb", func := "loop.example/g00939/laws.FnListening", spec := "fnListening", apart := false, narrowed := true }
def FnListeningUptoSaid : Prop := fnListeningUptoRow.holds Try.pinned (OpenSpec.upto fnListeningSpec)

/-- 'laws.FnListeners', WHERE WHAT IT READS IS OF BULK AT MOST 1048576: true; the input reads as it did. -/
def fnListenersUptoRow : OpenClaim := { program := "ytdipmjflgjlfeaa", sum := "173d08ea89cf19000ef6a278995ee0f9eaa5dd5b7690af8047e8b0f38a8163bb", func := "loop.example/g00939/laws.FnListeners", spec := "fnListeners", apart := false, narrowed := true }
def FnListenersUptoSaid : Prop := fnListenersUptoRow.holds Try.pinned (OpenSpec.upto fnListenersSpec)

/-- 'laws.FnPlaces', WHERE WHAT IT READS IS OF BULK AT MOST 1048576: true; the input reads as it did. -/
def fnPlacesUptoRow : OpenClaim := { program := "ytdipmjflgjlfeaa", sum := "173d08ea89cf19000ef6a278995ee0f9eaa5dd5b7690af8047e8b0f38a8163bb", func := "loop.example/g00939/laws.FnPlaces", spec := "fnPlaces", apart := false, narrowed := true }
def FnPlacesUptoSaid : Prop := fnPlacesUptoRow.holds Try.pinned (OpenSpec.upto fnPlacesSpec)

end Rows
end Go.Proofs.Ytdipmjflgjlfeaa
