/-
  Walks: ReachSquare and SoundTime, the program's and the reference's, and their laws.
-/
import Derived.Test.YtfjoggkielpipaaSnd
namespace Go.Proofs.Ytfjoggkielpipaa
open Go.RowKit


/-- Both spots: are they ones, and the time. -/
def sndV (a b : Sp) : Int := if isSp a && isSp b then sndT (sq a b) else 0
theorem snTime_any (n : Int) (h0 : 0 ≤ n) (h1 : n ≤ 2089984) (w : World) : Calls Try.prog 94 #[.int .i64 n] w fun e w' => e = .returned (.int .i64 (sndT n)) ∧ w = w' := by
  obtain ⟨s1, s2, s3⟩ := sndT_spec h0 h1
  have S2 := Lib.hid s2
  have S3 := Lib.hid s3
  clear s2 s3
  go_enter Try.func94, Try.ntmps94
  go_wp2
  go_loop [3, 4] (fun lo hi => ∃ a b : Nat, lo = .int .i64 a ∧ hi = .int .i64 b ∧ a ≤ sndT n ∧ sndT n ≤ b ∧ b ≤ 1000) (fun lo hi => ((intOf hi).toNat - (intOf lo).toNat))
  case atStart => exact ⟨0, 1000, rfl, rfl, by omega, by omega, by omega⟩
  case round =>
    obtain ⟨a, b, rfl, rfl, ha, hb, hb2⟩ := hrel
    by_cases hlt : a < b
    · have hm := way2_mono (s := (a + b : Int) / 2) (t := 1000) (by omega) (by omega)
      have hm0 := way2_nonneg (t := (a + b : Int) / 2) (by omega)
      have m1 : 4800 * (((a : Int) + b) / 2) * 4800 * (((a : Int) + b) / 2) ≤ 23040000000000 := hm
      have m2 : 0 ≤ 4800 * (((a : Int) + b) / 2) * 4800 * (((a : Int) + b) / 2) := hm0
      clear hm hm0
      by_cases ht : 1000000 * n ≤ 4800 * (((a : Int) + b) / 2) * 4800 * (((a : Int) + b) / 2)
      · go_wp2
        go_round
        case rel =>
          refine ⟨a, (a + b) / 2, rfl, by go_num, ha, ?_, by omega⟩
          rcases Nat.lt_or_ge ((a + b) / 2) (sndT n) with h | h
          · have h3 := S3.out _ h
            have e : (((a + b) / 2 : Nat) : Int) = ((a : Int) + b) / 2 := by omega
            rw [e] at h3
            unfold way2 at h3
            omega
          · exact h
        case measure => simp [intOf]; omega
      · go_wp2
        go_round
        case rel =>
          refine ⟨(a + b) / 2 + 1, b, by go_num, rfl, ?_, hb, hb2⟩
          rcases Nat.lt_or_ge ((a + b) / 2) (sndT n) with h | h
          · omega
          · have h3 := way2_mono (s := sndT n) (t := ((a + b) / 2 : Nat)) (by omega) (by omega)
            have h4 := S2.out
            have e : (((a + b) / 2 : Nat) : Int) = ((a : Int) + b) / 2 := by omega
            rw [e] at h3
            unfold way2 at h3 h4
            omega
        case measure => simp [intOf]; omega
    · go_wp2
      go_ret
      exact ⟨ret_int (by omega), rfl⟩

theorem snDelay_any (a b : Sp) (ha : isSp a = true) (hb : isSp b = true) (w : World) : Calls Try.prog 85 #[.agg #[.int .i64 a.x, .int .i64 a.y], .agg #[.int .i64 b.x, .int .i64 b.y]] w fun e w' => e = .returned (.int .i64 (sndT (sq a b))) ∧ Below w.heap.size w w' := by
  have h1 := sq_bd ha hb
  go_enter Try.func85, Try.ntmps85
  go_wp2_with (first | (go_at_call 95; refine (stSquare_any a b ha hb _).mono ?_; rintro e w' ⟨rfl, o1, o2, rfl⟩) | (go_at_call 94; refine (snTime_any _ h1.1 h1.2 _).mono ?_; rintro e w' ⟨rfl, rfl⟩))
  go_ret
  exact ⟨rfl, by repeat (first | exact Below.refl _ _ | (refine Below.alloc ?_ (by simp; try omega) _))⟩

end Go.Proofs.Ytfjoggkielpipaa
