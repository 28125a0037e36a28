/-
  Contracts: HeardWithin, EvenCircle, the program's and the reference's.
-/
import Derived.Test.YtfjoggkielpipaaSndd
import Derived.Test.YtfjoggkielpipaaApp
import Derived.Test.YtfjoggkielpipaaRet
namespace Go.Proofs.Ytfjoggkielpipaa
open Go.RowKit Go.Sort

/-- Those of a list of times that are at most so great. -/
def upto (T : List Int) (m : Int) (k : Nat) : List Int := pick (fun _ t => decide (t ≤ m)) T k
theorem upto_succ {T : List Int} {m : Int} {k : Nat} {t : Int} (h : T[k]? = some t) : upto T m (k + 1) = if t ≤ m then upto T m k ++ [(k : Int)] else upto T m k := by
  unfold upto
  rw [pick_succ h]
  by_cases hc : t ≤ m <;> simp [hc]
theorem upto_len (T : List Int) (m : Int) (k : Nat) : (upto T m k).length ≤ T.length := pick_len _ _ _
def hwV (L : List Sp) (a : Sp) (time : Int) : List Int := if (srcOk L && isSp a) && inR time 0 1000 then upto (times L a) time L.length else []



end Go.Proofs.Ytfjoggkielpipaa
