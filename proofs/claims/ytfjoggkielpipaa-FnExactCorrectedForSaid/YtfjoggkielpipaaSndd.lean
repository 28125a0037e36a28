/-
  Contracts: BestListener, the program's and the reference's.
-/
import Derived.Test.YtfjoggkielpipaaSndb
namespace Go.Proofs.Ytfjoggkielpipaa
open Go.RowKit Go.Sort

theorem spreadTimes_any (A : Option Addr) (c : Nat) (L : List Sp) (a : Sp) (w : World) (hm : Mem w A (ints (times L a))) (hl : L.length ≤ 40) (h0 : 0 < L.length) (hT : ∀ x ∈ times L a, 0 ≤ x ∧ x ≤ 302) : Calls Try.prog 59 #[.slice A L.length c] w fun e w' =>
    e = .returned (.tuple #[.int .i64 (lowOf (times L a)), .int .i64 (spr L a)]) ∧ Below w.heap.size w w' := by
  have := spreadOf_any A c (times L a) w hm (by rw [times_len]; omega) (by rw [times_len]; omega) (fun x hx => by have := hT x hx; omega)
  rw [times_len] at this
  exact this

end Go.Proofs.Ytfjoggkielpipaa
