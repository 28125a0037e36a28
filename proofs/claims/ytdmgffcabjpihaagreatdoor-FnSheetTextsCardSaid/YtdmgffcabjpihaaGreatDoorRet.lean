/-
  What calls hand back: numbers, spots in memory of their own, with a bool and perhaps a sum.
-/
import Derived.Test.YtdmgffcabjpihaaGreatDoorCpy
namespace Go.Proofs.YtdmgffcabjpihaaGreatDoor
open Go.RowKit

/-- A call hands back numbers in memory of its own, and a bool. -/
def RetInts (w : World) (V : List Int) (ok : Bool) (e : Ending) (w' : World) : Prop :=
  ∃ A' c', e = .returned (.tuple #[.slice A' V.length c', .bool ok]) ∧ w'.ownsRow w.heap.size 3 1 (.slice A' V.length c') V.length (ints V) ∧ Below w.heap.size w w'
theorem RetInts.none_ {w w' : World} {V : List Int} {ok : Bool} (hV : V = []) (hok : ok = false) (hb : Below w.heap.size w w') : RetInts w V ok (.returned (.tuple #[.slice none 0 0, .bool false])) w' := by
  subst hV hok
  exact ⟨none, 0, rfl, World.ownsRow_nil _ _ _ _, hb⟩
theorem RetInts.some_ {w w' : World} {V V' : List Int} {ok : Bool} {v : Value} {n base : Nat} (hok : ok = true) (hV : V = V') (ho : w'.ownsRow base 3 1 v n (ints V')) (hn : n = V'.length) (hbase : w.heap.size ≤ base) (hb : Below w.heap.size w w') : RetInts w V ok (.returned (.tuple #[v, .bool true])) w' := by
  subst hok hV hn
  obtain ⟨A', c', rfl⟩ := own_form ho
  exact ⟨A', c', rfl, own_base ho hbase, hb⟩
/-- The same with a number between. -/
def RetInts3 (w : World) (V : List Int) (s : Int) (ok : Bool) (e : Ending) (w' : World) : Prop :=
  ∃ A' c', e = .returned (.tuple #[.slice A' V.length c', .int .i64 s, .bool ok]) ∧ w'.ownsRow w.heap.size 3 1 (.slice A' V.length c') V.length (ints V) ∧ Below w.heap.size w w'
theorem RetInts3.none_ {w w' : World} {V : List Int} {s : Int} {ok b : Bool} (hV : V = []) (hs : s = 0) (hok : ok = b) (hb : Below w.heap.size w w') : RetInts3 w V s ok (.returned (.tuple #[.slice none 0 0, .int .i64 0, .bool b])) w' := by
  subst hV hok hs
  exact ⟨none, 0, rfl, World.ownsRow_nil _ _ _ _, hb⟩
theorem RetInts3.some_ {w w' : World} {V V' : List Int} {s s' : Int} {ok : Bool} {v : Value} {n base : Nat} (hok : ok = true) (hV : V = V') (hs : s = s') (ho : w'.ownsRow base 3 1 v n (ints V')) (hn : n = V'.length) (hbase : w.heap.size ≤ base) (hb : Below w.heap.size w w') : RetInts3 w V s ok (.returned (.tuple #[v, .int .i64 s', .bool true])) w' := by
  subst hok hV hn hs
  obtain ⟨A', c', rfl⟩ := own_form ho
  exact ⟨A', c', rfl, own_base ho hbase, hb⟩
def RetSpots (w : World) (V : List Sp) (ok : Bool) (e : Ending) (w' : World) : Prop :=
  ∃ A' c', e = .returned (.tuple #[.slice A' V.length c', .bool ok]) ∧ w'.ownsRow w.heap.size 25 2 (.slice A' V.length c') V.length (spots V) ∧ Below w.heap.size w w'
theorem RetSpots.none_ {w w' : World} {V : List Sp} {ok : Bool} (hV : V = []) (hok : ok = false) (hb : Below w.heap.size w w') : RetSpots w V ok (.returned (.tuple #[.slice none 0 0, .bool false])) w' := by
  subst hV hok
  exact ⟨none, 0, rfl, World.ownsRow_nil _ _ _ _, hb⟩
theorem RetSpots.some_ {w w' : World} {V V' : List Sp} {ok : Bool} {v : Value} {n base : Nat} (hok : ok = true) (hV : V = V') (ho : w'.ownsRow base 25 2 v n (spots V')) (hn : n = V'.length) (hbase : w.heap.size ≤ base) (hb : Below w.heap.size w w') : RetSpots w V ok (.returned (.tuple #[v, .bool true])) w' := by
  subst hok hV hn
  obtain ⟨A', c', rfl⟩ := own_form ho
  exact ⟨A', c', rfl, own_base ho hbase, hb⟩
end Go.Proofs.YtdmgffcabjpihaaGreatDoor
