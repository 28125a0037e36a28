/-
  The laws' own small functions; what the laws are handed.
-/
import Derived.Test.YtdmgffcabjpihaaGreatDoorMem
import Derived.Test.YtdmgffcabjpihaaGreatDoorFrame
import Derived.Test.YtdmgffcabjpihaaGreatDoorDrw
namespace Go.Proofs.YtdmgffcabjpihaaGreatDoor
open Go.RowKit Go.ChangeShapes Go.WideShapes Go.ChangeAt Go.Deep

section
variable {H : Type} {enc : TypeId × Value → H} {P : Program}
def okByte (n : Int) : Prop := 0 ≤ n ∧ n ≤ 255
theorem Rd_byte {w : World} {e : TypeId} (he : P.underlying e = some (.int .u8)) (hc : P.cellsOf e = 1) : Rd enc P w e 1 (fun n : Int => [Value.int .u8 n]) okByte :=
  ⟨hc, fun _ => rfl, fun _ _ _ _ _ _ h => by
    obtain ⟨n, h1, _, h3⟩ := DataW.trod_int he h
    refine ⟨n, h1, ?_⟩
    have := bounds_u8 h3
    exact ⟨by omega, by omega⟩⟩
theorem Rd_b (enc : TypeId × Value → H) (w : World) : Rd enc Tryz.prog w 5 1 (fun n : Int => [Value.int .u8 n]) okByte := Rd_byte Tryz.underlying5 (by kernel_rfl)
end

/-- A bool of which nothing is said. -/
def SomeBool (w : World) (e : Ending) (w' : World) : Prop := ∃ b : Bool, e = .returned (.bool b) ∧ w = w'
set_option maxRecDepth 100000 in
theorem big_any (A B : Option Addr) (n m c d : Nat) (w : World) (hn : n ≤ 9223372036854775807) : Calls Tryz.prog 4 #[.slice A n c, .slice B m d] w (SomeBool w) := by
  by_cases h1 : 1048576 < n
  · go_enter Tryz.func4, Tryz.ntmps4
    go_wp2
    go_ret
    exact ⟨_, rfl, rfl⟩
  · go_enter Tryz.func4, Tryz.ntmps4
    go_wp2
    go_ret
    exact ⟨_, rfl, rfl⟩
def sqV (a b : Sp) : Int := if isSp a && isSp b then sq a b else 0
set_option maxRecDepth 100000 in
theorem impl_SquareOf_any (a b : Sp) (w : World) : Calls Tryz.prog 20 #[.agg #[.int .i64 a.x, .int .i64 a.y], .agg #[.int .i64 b.x, .int .i64 b.y]] w fun e w' => e = .returned (.tuple #[.int .i64 (sqV a b), .bool (isSp a && isSp b)]) ∧ Below w.heap.size w w' := by
  cases ha : isSp a
  · go_enter Tryz.func20, Tryz.ntmps20
    go_wp2_with (first | (go_at_call 37; refine (isSpot_any _ _).mono ?_; rintro e w' ⟨rfl, o, rfl⟩))
    go_ret2
    exact ⟨by simp [sqV, ha], by (repeat (first | exact Below.refl _ _ | assumption | (refine Below.alloc ?_ (by first | omega | (simp; done) | (simp; omega)) _) | (refine Below.setCell ?_ (by first | omega | (simp; done) | (simp; omega)) _) | (refine Below.drew ?_) | (refine Below.drewN ?_ _) | (refine Below.next (by assumption) ?_ (by first | omega | (simp; done) | (simp; omega)))))⟩
  · cases hb : isSp b
    · go_enter Tryz.func20, Tryz.ntmps20
      go_wp2_with (first | (go_at_call 37; refine (isSpot_any _ _).mono ?_; rintro e w' ⟨rfl, o, rfl⟩))
      go_ret2
      exact ⟨by simp [sqV, hb], by (repeat (first | exact Below.refl _ _ | assumption | (refine Below.alloc ?_ (by first | omega | (simp; done) | (simp; omega)) _) | (refine Below.setCell ?_ (by first | omega | (simp; done) | (simp; omega)) _) | (refine Below.drew ?_) | (refine Below.drewN ?_ _) | (refine Below.next (by assumption) ?_ (by first | omega | (simp; done) | (simp; omega)))))⟩
    · go_enter Tryz.func20, Tryz.ntmps20
      go_wp2_with (first | (go_at_call 37; refine (isSpot_any _ _).mono ?_; rintro e w' ⟨rfl, o, rfl⟩) | (go_at_call 34; refine (squareOf_any a b ha hb _).mono ?_; rintro e w' ⟨rfl, o1, o2, rfl⟩))
      go_ret2
      exact ⟨by simp [sqV, ha, hb], by (repeat (first | exact Below.refl _ _ | assumption | (refine Below.alloc ?_ (by first | omega | (simp; done) | (simp; omega)) _) | (refine Below.setCell ?_ (by first | omega | (simp; done) | (simp; omega)) _) | (refine Below.drew ?_) | (refine Below.drewN ?_ _) | (refine Below.next (by assumption) ?_ (by first | omega | (simp; done) | (simp; omega)))))⟩





end Go.Proofs.YtdmgffcabjpihaaGreatDoor
