/-
  The laws' own small functions; what the laws are handed.
-/
import Derived.Test.YthehcjfljjfnmaaGreatBase
import Derived.Test.YthehcjfljjfnmaaGreatDrw
namespace Go.Proofs.YthehcjfljjfnmaaGreat
open Go.RowKit Go.ChangeShapes Go.WideShapes Go.ChangeAt Go.Deep

section
variable {H : Type} {enc : TypeId × Value → H} {P : Program}
def okByte (n : Int) : Prop := 0 ≤ n ∧ n ≤ 255
theorem Rd_byte {w : World} {e : TypeId} (he : P.underlying e = some (.int .u8)) (hc : P.cellsOf e = 1) : Rd enc P w e 1 (fun n : Int => [Value.int .u8 n]) okByte :=
  ⟨hc, fun _ => rfl, fun _ _ _ _ _ _ h => by
    obtain ⟨n, h1, _, h3⟩ := DataW.trod_int he h
    refine ⟨n, h1, ?_⟩
    have := bounds_u8 h3
    exact ⟨by omega, by omega⟩⟩
theorem Rd_b (enc : TypeId × Value → H) (w : World) : Rd enc Tryz.prog w 5 1 (fun n : Int => [Value.int .u8 n]) okByte := Rd_byte Tryz.underlying5 (by kernel_rfl)
end

/-- A bool of which nothing is said. -/
def SomeBool (w : World) (e : Ending) (w' : World) : Prop := ∃ b : Bool, e = .returned (.bool b) ∧ w = w'


set_option maxRecDepth 100000 in
theorem qInts_same (A B : Option Addr) (c d : Nat) (L : List Int) (w : World) (hm : Mem w A (ints L)) (hn : Mem w B (ints L)) (hl : L.length ≤ 1048576) : Calls Tryz.prog 21 #[.slice A L.length c, .slice B L.length d] w fun e w' =>
    e = .returned (.bool true) ∧ Below w.heap.size w w' := by
  go_enter Tryz.func21, Tryz.ntmps21
  go_wp2
  go_loopw [5, 13] (fun _ i wr => ∃ k : Nat, k ≤ L.length ∧ i = .int .i64 k ∧ Below w.heap.size w wr) (fun _ i _ => L.length - (intOf i).toNat)
  case atStart => exact ⟨0, by omega, rfl, Below.refl _ _⟩
  case round =>
    obtain ⟨k, hk, rfl, hb⟩ := hrel
    by_cases hlt : k < L.length
    · obtain ⟨s, hs⟩ := some_of_lt hlt
      obtain ⟨b, off, rfl, h1⟩ := (hm.below hb).int hs
      obtain ⟨b2, off2, rfl, h2⟩ := (hn.below hb).int hs
      clear hs
      go_wp2
      go_quiet (fail)
      go_wp2
      go_roundw
      case rel => exact ⟨k + 1, by omega, by go_num, Below.drewN hb _⟩
      case measure => simp [intOf]; omega
    · go_wp2
      go_ret
      exact ⟨rfl, hb⟩



end Go.Proofs.YthehcjfljjfnmaaGreat
