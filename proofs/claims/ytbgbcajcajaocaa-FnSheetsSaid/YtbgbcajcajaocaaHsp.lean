/-
  Contract: marks held by a list of spots.
-/
import Derived.Test.YtbgbcajcajaocaaCpySp
namespace Go.Proofs.Ytbgbcajcajaocaa
open Go.RowKit Go.Sort

set_option maxRecDepth 100000 in
theorem heldSpotS_any (A : Option Addr) (n c : Nat) (k0 : Int) (w : World) (hm : Mem w A (spots (runS k0 n))) (hl : n ≤ 1048576) (h0 : 0 ≤ k0) (h1 : k0 ≤ 1000000000) : Calls Try.prog 57 #[.slice A n c, .int .i64 k0] w fun e w' =>
    e = .returned (.int .i64 (k0 + 2 * n)) ∧ w = w' := by
  go_enter Try.func57, Try.ntmps57
  go_wp2
  go_loop [1, 5] (fun kk i => ∃ j : Nat, j ≤ n ∧ i = .int .i64 j ∧ kk = .int .i64 (k0 + 2 * j)) (fun _ i => n - (intOf i).toNat)
  case atStart => exact ⟨0, by omega, rfl, by simp⟩
  case round =>
    obtain ⟨j, hj, rfl, rfl⟩ := hrel
    by_cases hlt : j < n
    · obtain ⟨b, off, rfl, h1, h2⟩ := hm.spot (runS_at hlt)
      go_wp2
      go_round
      case rel => exact ⟨j + 1, by omega, by go_num, by go_num⟩
      case measure => simp [intOf]; omega
    · go_wp2
      go_ret
      exact ⟨ret_int (by omega), rfl⟩
end Go.Proofs.Ytbgbcajcajaocaa
