/-
  Contracts: HeardWithin, EvenCircle, the program's and the reference's.
-/
import Derived.Test.YtfjoggkielpipaaSndd
import Derived.Test.YtfjoggkielpipaaApp
namespace Go.Proofs.Ytfjoggkielpipaa
open Go.RowKit Go.Sort

/-- A call hands back numbers in memory of its own, and a bool. -/
def RetInts (w : World) (V : List Int) (ok : Bool) (e : Ending) (w' : World) : Prop :=
  ∃ A' c', e = .returned (.tuple #[.slice A' V.length c', .bool ok]) ∧ w'.ownsRow w.heap.size 3 1 (.slice A' V.length c') V.length (ints V) ∧ Below w.heap.size w w'
theorem RetInts.none_ {w w' : World} {V : List Int} {ok : Bool} (hV : V = []) (hok : ok = false) (hb : Below w.heap.size w w') : RetInts w V ok (.returned (.tuple #[.slice none 0 0, .bool false])) w' := by
  subst hV hok
  exact ⟨none, 0, rfl, World.ownsRow_nil _ _ _ _, hb⟩
theorem RetInts.some_ {w w' : World} {V V' : List Int} {ok : Bool} {v : Value} {n base : Nat} (hok : ok = true) (hV : V = V') (ho : w'.ownsRow base 3 1 v n (ints V')) (hn : n = V'.length) (hbase : w.heap.size ≤ base) (hb : Below w.heap.size w w') : RetInts w V ok (.returned (.tuple #[v, .bool true])) w' := by
  subst hok hV hn
  obtain ⟨A', c', rfl⟩ := own_form ho
  exact ⟨A', c', rfl, own_base ho hbase, hb⟩

/-- Those of a list of times that are at most so great. -/
def upto (T : List Int) (m : Int) (k : Nat) : List Int := pick (fun _ t => decide (t ≤ m)) T k
theorem upto_succ {T : List Int} {m : Int} {k : Nat} {t : Int} (h : T[k]? = some t) : upto T m (k + 1) = if t ≤ m then upto T m k ++ [(k : Int)] else upto T m k := by
  unfold upto
  rw [pick_succ h]
  by_cases hc : t ≤ m <;> simp [hc]
theorem upto_len (T : List Int) (m : Int) (k : Nat) : (upto T m k).length ≤ T.length := pick_len _ _ _
def hwV (L : List Sp) (a : Sp) (time : Int) : List Int := if (srcOk L && isSp a) && inR time 0 1000 then upto (times L a) time L.length else []



end Go.Proofs.Ytfjoggkielpipaa
