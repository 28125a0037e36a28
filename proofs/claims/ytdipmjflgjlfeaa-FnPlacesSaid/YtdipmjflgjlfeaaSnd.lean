/-
  Contracts of the functions on times of sound.
-/
import Derived.Test.YtdipmjflgjlfeaaLeaf
import Derived.Test.YtdipmjflgjlfeaaMem
import Derived.LoopTactic
import Derived.Deep.RegionHeld3
namespace Go.Proofs.Ytdipmjflgjlfeaa
open Go.RowKit

set_option maxRecDepth 100000 in
theorem soundTime_any (a b : Sp) (ha : isSp a = true) (hb : isSp b = true) (w : World) : Calls Try.prog 74 #[.agg #[.int .i64 a.x, .int .i64 a.y], .agg #[.int .i64 b.x, .int .i64 b.y]] w fun e w' => e = .returned (.int .i64 (sndT (sq a b))) ∧ Below w.heap.size w w' := by
  have h1 := sq_bd ha hb
  go_enter Try.func74, Try.ntmps74
  go_wp2_with (go_at_call 77; refine (squareOf_any a b ha hb _).mono ?_; rintro e w' ⟨rfl, o1, o2, rfl⟩)
  go_loop [6] (fun t => ∃ k : Nat, k ≤ 302 ∧ t = .int .i64 k ∧ Hid (∀ s : Nat, s < k → way2 s < 1000000 * sq a b)) (fun t => 302 - (intOf t).toNat)
  case atStart => exact ⟨0, by omega, rfl, fun s hs => absurd hs (by omega)⟩
  case round =>
    obtain ⟨k, hk, rfl, H⟩ := hrel
    have hb1 := way2_nonneg (t := k) (by omega)
    have hb2 := way2_mono (s := k) (t := 302) (by omega) (by omega)
    have e302 : Hid (way2 302 = 2101340160000) := rfl
    have hb3 : 4800 * (k : Int) * 4800 * k ≤ 2101340160000 := by rw [e302.out] at hb2; exact hb2
    have hb4 : 0 ≤ 4800 * (k : Int) * 4800 * k := hb1
    by_cases hlt : 4800 * (k : Int) * 4800 * k < 1000000 * sq a b
    · have hk2 : k < 302 := by
        rcases Nat.lt_or_ge k 302 with h | h
        · exact h
        · have : k = 302 := by omega
          subst this
          have : (4800 : Int) * ((302 : Nat) : Int) * 4800 * ((302 : Nat) : Int) = 2101340160000 := rfl
          omega
      clear hb1 hb2
      go_wp2
      go_round
      case rel =>
        refine ⟨k + 1, by omega, by go_num, fun s hs => ?_⟩
        rcases Nat.lt_or_eq_of_le (Nat.le_of_lt_succ hs) with h3 | h3
        · exact H.out s h3
        · subst h3; exact hlt
      case measure => simp [intOf]; omega
    · clear hb1 hb2
      go_wp2
      go_ret
      exact ⟨ret_int (by rw [sndT_eq (by omega) (by unfold way2; omega) H.out]), by repeat (first | exact Below.refl _ _ | (refine Below.alloc ?_ (by simp; try omega) _))⟩
end Go.Proofs.Ytdipmjflgjlfeaa
