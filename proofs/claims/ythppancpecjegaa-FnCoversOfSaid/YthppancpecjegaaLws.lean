/-
  The laws' own small functions; what the laws are handed.
-/
import Derived.Test.YthppancpecjegaaMem
import Derived.Test.YthppancpecjegaaFrame
import Derived.Test.YthppancpecjegaaDrw
namespace Go.Proofs.Ythppancpecjegaa
open Go.RowKit Go.ChangeShapes Go.WideShapes Go.ChangeAt Go.Deep

section
variable {H : Type} {enc : TypeId × Value → H} {P : Program}
def okByte (n : Int) : Prop := 0 ≤ n ∧ n ≤ 255
theorem Rd_byte {w : World} {e : TypeId} (he : P.underlying e = some (.int .u8)) (hc : P.cellsOf e = 1) : Rd enc P w e 1 (fun n : Int => [Value.int .u8 n]) okByte :=
  ⟨hc, fun _ => rfl, fun _ _ _ _ _ _ h => by
    obtain ⟨n, h1, _, h3⟩ := DataW.trod_int he h
    refine ⟨n, h1, ?_⟩
    have := bounds_u8 h3
    exact ⟨by omega, by omega⟩⟩
theorem Rd_b (enc : TypeId × Value → H) (w : World) : Rd enc Try.prog w 5 1 (fun n : Int => [Value.int .u8 n]) okByte := Rd_byte Try.underlying5 (by kernel_rfl)
end

/-- A bool of which nothing is said. -/
def SomeBool (w : World) (e : Ending) (w' : World) : Prop := ∃ b : Bool, e = .returned (.bool b) ∧ w = w'
def sqV (a b : Sp) : Int := if isSp a && isSp b then sq a b else 0
set_option maxRecDepth 100000 in
theorem impl_SquareOf_any (a b : Sp) (w : World) : Calls Try.prog 31 #[.agg #[.int .i64 a.x, .int .i64 a.y], .agg #[.int .i64 b.x, .int .i64 b.y]] w fun e w' => e = .returned (.tuple #[.int .i64 (sqV a b), .bool (isSp a && isSp b)]) ∧ Below w.heap.size w w' := by
  cases ha : isSp a
  · go_enter Try.func31, Try.ntmps31
    go_wp2_with (first | (go_at_call 64; refine (isSpot_any _ _).mono ?_; rintro e w' ⟨rfl, o, rfl⟩))
    go_ret2
    exact ⟨by simp [sqV, ha], by (repeat (first | exact Below.refl _ _ | assumption | (refine Below.alloc ?_ (by first | omega | (simp; done) | (simp; omega)) _) | (refine Below.setCell ?_ (by first | omega | (simp; done) | (simp; omega)) _) | (refine Below.drew ?_) | (refine Below.drewN ?_ _) | (refine Below.next (by assumption) ?_ (by first | omega | (simp; done) | (simp; omega)))))⟩
  · cases hb : isSp b
    · go_enter Try.func31, Try.ntmps31
      go_wp2_with (first | (go_at_call 64; refine (isSpot_any _ _).mono ?_; rintro e w' ⟨rfl, o, rfl⟩))
      go_ret2
      exact ⟨by simp [sqV, hb], by (repeat (first | exact Below.refl _ _ | assumption | (refine Below.alloc ?_ (by first | omega | (simp; done) | (simp; omega)) _) | (refine Below.setCell ?_ (by first | omega | (simp; done) | (simp; omega)) _) | (refine Below.drew ?_) | (refine Below.drewN ?_ _) | (refine Below.next (by assumption) ?_ (by first | omega | (simp; done) | (simp; omega)))))⟩
    · go_enter Try.func31, Try.ntmps31
      go_wp2_with (first | (go_at_call 64; refine (isSpot_any _ _).mono ?_; rintro e w' ⟨rfl, o, rfl⟩) | (go_at_call 52; refine (squareOf_any a b ha hb _).mono ?_; rintro e w' ⟨rfl, o1, o2, rfl⟩))
      go_ret2
      exact ⟨by simp [sqV, ha, hb], by (repeat (first | exact Below.refl _ _ | assumption | (refine Below.alloc ?_ (by first | omega | (simp; done) | (simp; omega)) _) | (refine Below.setCell ?_ (by first | omega | (simp; done) | (simp; omega)) _) | (refine Below.drew ?_) | (refine Below.drewN ?_ _) | (refine Below.next (by assumption) ?_ (by first | omega | (simp; done) | (simp; omega)))))⟩


set_option maxRecDepth 100000 in
theorem qInts_same (A B : Option Addr) (c d : Nat) (L : List Int) (w : World) (hm : Mem w A (ints L)) (hn : Mem w B (ints L)) (hl : L.length ≤ 1048576) : Calls Try.prog 39 #[.slice A L.length c, .slice B L.length d] w fun e w' =>
    e = .returned (.bool true) ∧ Below w.heap.size w w' := by
  go_enter Try.func39, Try.ntmps39
  go_wp2
  go_loopw [5, 13] (fun _ i wr => ∃ k : Nat, k ≤ L.length ∧ i = .int .i64 k ∧ Below w.heap.size w wr) (fun _ i _ => L.length - (intOf i).toNat)
  case atStart => exact ⟨0, by omega, rfl, Below.refl _ _⟩
  case round =>
    obtain ⟨k, hk, rfl, hb⟩ := hrel
    by_cases hlt : k < L.length
    · obtain ⟨s, hs⟩ := some_of_lt hlt
      obtain ⟨b, off, rfl, h1⟩ := (hm.below hb).int hs
      obtain ⟨b2, off2, rfl, h2⟩ := (hn.below hb).int hs
      clear hs
      go_wp2
      go_quiet (fail)
      go_wp2
      go_roundw
      case rel => exact ⟨k + 1, by omega, by go_num, Below.drewN hb _⟩
      case measure => simp [intOf]; omega
    · go_wp2
      go_ret
      exact ⟨rfl, hb⟩


set_option maxRecDepth 100000 in
theorem qHas_any (A : Option Addr) (c : Nat) (L : List Int) (n : Int) (w : World) (hm : Mem w A (ints L)) (hl : L.length ≤ 1048576) : Calls Try.prog 42 #[.slice A L.length c, .int .i64 n] w fun e w' =>
    e = .returned (.bool (decide (n ∈ L))) ∧ w = w' := by
  go_enter Try.func42, Try.ntmps42
  go_wp2
  go_loop [6, 9] (fun _ i => ∃ k : Nat, k ≤ L.length ∧ i = .int .i64 k ∧ Hid ((L.take k).contains n = false)) (fun _ i => L.length - (intOf i).toNat)
  case atStart => exact ⟨0, by omega, rfl, Lib.hid (by simp)⟩
  case round =>
    obtain ⟨k, hk, rfl, H⟩ := hrel
    by_cases hlt : k < L.length
    · obtain ⟨s, hs⟩ := some_of_lt hlt
      obtain ⟨b, off, rfl, h1⟩ := hm.int hs
      have HS := Lib.hid hs
      clear hs
      by_cases he : s = n
      · subst he
        go_wp2
        go_ret
        exact ⟨ret_bool (by have := List.mem_of_getElem? HS.out; simp [this]), rfl⟩
      · have e1 : (s == n) = false := beq_eq_false_iff_ne.2 he
        have e2 : Hid (n ≠ s) := Lib.hid (fun e => he e.symm)
        go_wp2
        go_round
        case rel => exact ⟨k + 1, by omega, by go_num, Lib.hid (by rw [List.take_add_one, HS.out]; have := H.out; simp at this ⊢; exact ⟨this, e2.out⟩)⟩
        case measure => simp [intOf]; omega
    · go_wp2
      go_ret
      have h1 := H.out
      rw [List.take_of_length_le (by omega)] at h1
      have h2 : n ∉ L := by simpa using h1
      exact ⟨ret_bool (by simp [h2]), rfl⟩

end Go.Proofs.Ythppancpecjegaa
