/-
  Contracts: how long a repaired transition lasts.
-/
import Derived.Test.YtjnkkeaknaoghaaTr
namespace Go.Proofs.Ytjnkkeaknaoghaa
open Go.RowKit Go.Sort

def mxTo (D : List Int) : Nat → Int
  | 0 => 0
  | k + 1 => max (mxTo D k) (D.getD k 0)
def rlV (F T : List Sp) (n : Int) (P D : List Int) : Int := if dlOk F T n P D then n + mxTo D D.length else 0
theorem mxTo_succ {D : List Int} {k : Nat} {x : Int} (h : D[k]? = some x) : mxTo D (k + 1) = max (mxTo D k) x := by
  rw [mxTo, List.getD_eq_getElem?_getD, h]; rfl
theorem inR_at {D : List Int} {k : Nat} {x lo hi : Int} (h : (D.all fun x => inR x lo hi) = true) (hx : D[k]? = some x) : lo ≤ x ∧ x ≤ hi :=
  inR_iff.1 (List.all_eq_true.1 h x (List.mem_of_getElem? hx))

end Go.Proofs.Ytjnkkeaknaoghaa
