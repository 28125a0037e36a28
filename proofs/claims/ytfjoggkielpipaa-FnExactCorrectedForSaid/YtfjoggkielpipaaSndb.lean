/-
  Contracts: SpreadAt, TogetherAt, HeardFirst, BestListener, the program's and the reference's.
-/
import Derived.Test.YtfjoggkielpipaaSnda
import Derived.Test.YtfjoggkielpipaaCpySp
namespace Go.Proofs.Ytfjoggkielpipaa
open Go.RowKit Go.Sort

/-- The value of a question that is asked of sources and a spot. -/
def q1V (L : List Sp) (a : Sp) (v : Int) : Int := if srcOk L && isSp a then v else 0


end Go.Proofs.Ytfjoggkielpipaa
