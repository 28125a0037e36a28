/-
  Offsets: the program's and the reference's AreOffsets, ShiftOffsets.
-/
import Derived.Test.YtbgbcajcajaocaaCpy
namespace Go.Proofs.Ytbgbcajcajaocaa
open Go.RowKit

def isOff (n : Int) : Bool := inR n (-2000) 2000
def offOk (L : List Int) : Bool := L.all isOff && inR L.length 1 40

set_option maxRecDepth 100000 in
theorem l1All_any (A : Option Addr) (c : Nat) (L : List Int) (lo hi : Int) (w : World) (hm : Mem w A (ints L)) (hl : L.length ≤ 1048576) : Calls Try.prog 73 #[.slice A L.length c, .int .i64 lo, .int .i64 hi] w fun e w' => e = .returned (.bool (L.all fun n => inR n lo hi)) ∧ w = w' := by
  go_enter Try.func73, Try.ntmps73
  go_wp2
  go_loop [8, 11] (fun _ i => ∃ k : Nat, k ≤ L.length ∧ i = .int .i64 k ∧ Hid ((L.take k).all (fun n => inR n lo hi) = true)) (fun _ i => L.length - (intOf i).toNat)
  case atStart => exact ⟨0, by omega, rfl, all_take_zero _ _⟩
  case round =>
    obtain ⟨k, hk, rfl, H⟩ := hrel
    by_cases hlt : k < L.length
    · obtain ⟨s, hs⟩ := some_of_lt hlt
      obtain ⟨b, off, rfl, h1⟩ := hm.int hs
      have HS := Lib.hid hs
      clear hs
      cases hg : inR s lo hi
      · go_wp2_with (go_at_call 42; refine (l1In_any _ _ _ _).mono ?_; rintro e w' ⟨rfl, rfl⟩)
        go_ret
        exact ⟨ret_bool (all_no (f := fun n => inR n lo hi) HS hg).symm, rfl⟩
      · go_wp2_with (go_at_call 42; refine (l1In_any _ _ _ _).mono ?_; rintro e w' ⟨rfl, rfl⟩)
        go_round
        case rel => exact ⟨k + 1, by omega, by go_num, all_take_succ (f := fun n => inR n lo hi) H HS hg⟩
        case measure => simp [intOf]; omega
    · go_wp2
      go_ret
      exact ⟨ret_bool (all_yes H (by omega)).symm, rfl⟩

end Go.Proofs.Ytbgbcajcajaocaa
