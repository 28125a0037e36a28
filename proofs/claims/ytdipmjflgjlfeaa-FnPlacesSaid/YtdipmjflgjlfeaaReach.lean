/-
  Walks: ReachSquare and SoundTime, the program's and the reference's, and their laws.
-/
import Derived.Test.YtdipmjflgjlfeaaSnd
namespace Go.Proofs.Ytdipmjflgjlfeaa
open Go.RowKit

def reachV (t : Int) : Int := if inR t 0 1000 then way2 t / 1000000 else 0
set_option maxRecDepth 100000 in
theorem spec_ReachSquare_any (t : Int) (w : World) : Calls Try.prog 22 #[.int .i64 t] w fun e w' => e = .returned (.tuple #[.int .i64 (reachV t), .bool (inR t 0 1000)]) ∧ w = w' := by
  cases h : inR t 0 1000
  · go_enter Try.func22, Try.ntmps22
    go_wp2_with (first | (go_at_call 86; refine (snIn_any _ _).mono ?_; rintro e w' ⟨rfl, rfl⟩))
    go_ret2
    exact ⟨by simp [reachV, h], rfl⟩
  · have hb := inR_iff.1 h
    have h1 := way2_nonneg hb.1
    have h2 := way2_mono hb.1 hb.2
    have h3 : 4800 * t * 4800 * t ≤ 23040000000000 := h2
    have h4 : 0 ≤ 4800 * t * 4800 * t := h1
    clear h1 h2
    go_enter Try.func22, Try.ntmps22
    go_wp2_with (first | (go_at_call 86; refine (snIn_any _ _).mono ?_; rintro e w' ⟨rfl, rfl⟩))
    go_ret2
    exact ⟨by simp [reachV, h, way2], rfl⟩
set_option maxRecDepth 100000 in
theorem impl_ReachSquare_any (t : Int) (w : World) : Calls Try.prog 12 #[.int .i64 t] w fun e w' => e = .returned (.tuple #[.int .i64 (reachV t), .bool (inR t 0 1000)]) ∧ w = w' := by
  cases h : inR t 0 1000
  · go_enter Try.func12, Try.ntmps12
    go_wp2_with (first | (go_at_call 78; refine (within_any _ _ _ _).mono ?_; rintro e w' ⟨rfl, rfl⟩))
    go_ret2
    exact ⟨by simp [reachV, h], rfl⟩
  · have hb := inR_iff.1 h
    have h1 := way2_nonneg hb.1
    have h2 := way2_mono hb.1 hb.2
    have h3 : 4800 * t * 4800 * t ≤ 23040000000000 := h2
    have h4 : 0 ≤ 4800 * t * 4800 * t := h1
    clear h1 h2
    go_enter Try.func12, Try.ntmps12
    go_wp2_with (first | (go_at_call 78; refine (within_any _ _ _ _).mono ?_; rintro e w' ⟨rfl, rfl⟩))
    go_ret2
    exact ⟨by simp [reachV, h, way2], rfl⟩

/-- Both spots: are they ones, and the time. -/
def sndV (a b : Sp) : Int := if isSp a && isSp b then sndT (sq a b) else 0
set_option maxRecDepth 100000 in
theorem snTime_any (n : Int) (h0 : 0 ≤ n) (h1 : n ≤ 2089984) (w : World) : Calls Try.prog 113 #[.int .i64 n] w fun e w' => e = .returned (.int .i64 (sndT n)) ∧ w = w' := by
  obtain ⟨s1, s2, s3⟩ := sndT_spec h0 h1
  have S2 := Lib.hid s2
  have S3 := Lib.hid s3
  clear s2 s3
  go_enter Try.func113, Try.ntmps113
  go_wp2
  go_loop [3, 4] (fun lo hi => ∃ a b : Nat, lo = .int .i64 a ∧ hi = .int .i64 b ∧ a ≤ sndT n ∧ sndT n ≤ b ∧ b ≤ 1000) (fun lo hi => ((intOf hi).toNat - (intOf lo).toNat))
  case atStart => exact ⟨0, 1000, rfl, rfl, by omega, by omega, by omega⟩
  case round =>
    obtain ⟨a, b, rfl, rfl, ha, hb, hb2⟩ := hrel
    by_cases hlt : a < b
    · have hm := way2_mono (s := (a + b : Int) / 2) (t := 1000) (by omega) (by omega)
      have hm0 := way2_nonneg (t := (a + b : Int) / 2) (by omega)
      have m1 : 4800 * (((a : Int) + b) / 2) * 4800 * (((a : Int) + b) / 2) ≤ 23040000000000 := hm
      have m2 : 0 ≤ 4800 * (((a : Int) + b) / 2) * 4800 * (((a : Int) + b) / 2) := hm0
      clear hm hm0
      by_cases ht : 1000000 * n ≤ 4800 * (((a : Int) + b) / 2) * 4800 * (((a : Int) + b) / 2)
      · go_wp2
        go_round
        case rel =>
          refine ⟨a, (a + b) / 2, rfl, by go_num, ha, ?_, by omega⟩
          rcases Nat.lt_or_ge ((a + b) / 2) (sndT n) with h | h
          · have h3 := S3.out _ h
            have e : (((a + b) / 2 : Nat) : Int) = ((a : Int) + b) / 2 := by omega
            rw [e] at h3
            unfold way2 at h3
            omega
          · exact h
        case measure => simp [intOf]; omega
      · go_wp2
        go_round
        case rel =>
          refine ⟨(a + b) / 2 + 1, b, by go_num, rfl, ?_, hb, hb2⟩
          rcases Nat.lt_or_ge ((a + b) / 2) (sndT n) with h | h
          · omega
          · have h3 := way2_mono (s := sndT n) (t := ((a + b) / 2 : Nat)) (by omega) (by omega)
            have h4 := S2.out
            have e : (((a + b) / 2 : Nat) : Int) = ((a : Int) + b) / 2 := by omega
            rw [e] at h3
            unfold way2 at h3 h4
            omega
        case measure => simp [intOf]; omega
    · go_wp2
      go_ret
      exact ⟨ret_int (by omega), rfl⟩

set_option maxRecDepth 100000 in
theorem snDelay_any (a b : Sp) (ha : isSp a = true) (hb : isSp b = true) (w : World) : Calls Try.prog 76 #[.agg #[.int .i64 a.x, .int .i64 a.y], .agg #[.int .i64 b.x, .int .i64 b.y]] w fun e w' => e = .returned (.int .i64 (sndT (sq a b))) ∧ Below w.heap.size w w' := by
  have h1 := sq_bd ha hb
  go_enter Try.func76, Try.ntmps76
  go_wp2_with (first | (go_at_call 91; refine (stSquare_any a b ha hb _).mono ?_; rintro e w' ⟨rfl, o1, o2, rfl⟩) | (go_at_call 113; refine (snTime_any _ h1.1 h1.2 _).mono ?_; rintro e w' ⟨rfl, rfl⟩))
  go_ret
  exact ⟨rfl, by repeat (first | exact Below.refl _ _ | (refine Below.alloc ?_ (by simp; try omega) _))⟩

set_option maxRecDepth 100000 in
theorem spec_SoundTime_any (a b : Sp) (w : World) : Calls Try.prog 10 #[.agg #[.int .i64 a.x, .int .i64 a.y], .agg #[.int .i64 b.x, .int .i64 b.y]] w fun e w' => e = .returned (.tuple #[.int .i64 (sndV a b), .bool (isSp a && isSp b)]) ∧ Below w.heap.size w w' := by
  cases h : (isSp a && isSp b)
  · go_enter Try.func10, Try.ntmps10
    go_wp2_with ((go_at_call 75; refine (stTwo_any a b _).mono ?_; rintro e w' ⟨rfl, hq⟩; obtain ⟨hz, hc, hf⟩ := bel hq; (try simp at hz); (try have gz1 : w.heap.size < w'.heap.size := by omega); (try have gz2 : w.heap.size + 1 < w'.heap.size := by omega); (try have gz3 : wr.heap.size < w'.heap.size := by omega)))
    go_ret2
    exact ⟨by simp [sndV, h], by (repeat (first | exact Below.refl _ _ | assumption | (refine Below.alloc ?_ (by first | omega | (simp; done) | (simp; omega)) _) | (refine Below.setCell ?_ (by first | omega | (simp; done) | (simp; omega)) _) | (refine Below.drew ?_) | (refine Below.drewN ?_ _) | (refine Below.next (by assumption) ?_ (by first | omega | (simp; done) | (simp; omega)))))⟩
  · obtain ⟨ha, hb⟩ : isSp a = true ∧ isSp b = true := by simpa using h
    go_enter Try.func10, Try.ntmps10
    go_wp2_with (first | (go_at_call 75; refine (stTwo_any a b _).mono ?_; rintro e w' ⟨rfl, hq⟩; obtain ⟨hz, hc, hf⟩ := bel hq; (try simp at hz); (try have gz1 : w.heap.size < w'.heap.size := by omega); (try have gz2 : w.heap.size + 1 < w'.heap.size := by omega); (try have gz3 : wr.heap.size < w'.heap.size := by omega)) | (go_at_call 76; refine (snDelay_any a b ha hb _).mono ?_; rintro e w' ⟨rfl, hq⟩; obtain ⟨hz, hc, hf⟩ := bel hq; (try simp at hz); (try have gz1 : w.heap.size < w'.heap.size := by omega); (try have gz2 : w.heap.size + 1 < w'.heap.size := by omega); (try have gz3 : wr.heap.size < w'.heap.size := by omega)))
    go_ret2
    exact ⟨by simp [sndV, ha, hb], by (repeat (first | exact Below.refl _ _ | assumption | (refine Below.alloc ?_ (by first | omega | (simp; done) | (simp; omega)) _) | (refine Below.setCell ?_ (by first | omega | (simp; done) | (simp; omega)) _) | (refine Below.drew ?_) | (refine Below.drewN ?_ _) | (refine Below.next (by assumption) ?_ (by first | omega | (simp; done) | (simp; omega)))))⟩
set_option maxRecDepth 100000 in
theorem impl_SoundTime_any (a b : Sp) (w : World) : Calls Try.prog 9 #[.agg #[.int .i64 a.x, .int .i64 a.y], .agg #[.int .i64 b.x, .int .i64 b.y]] w fun e w' => e = .returned (.tuple #[.int .i64 (sndV a b), .bool (isSp a && isSp b)]) ∧ Below w.heap.size w w' := by
  cases ha : isSp a
  · go_enter Try.func9, Try.ntmps9
    go_wp2_with (first | (go_at_call 73; refine (isSpot_any _ _).mono ?_; rintro e w' ⟨rfl, o, rfl⟩))
    go_ret2
    exact ⟨by simp [sndV, ha], by (repeat (first | exact Below.refl _ _ | assumption | (refine Below.alloc ?_ (by first | omega | (simp; done) | (simp; omega)) _) | (refine Below.setCell ?_ (by first | omega | (simp; done) | (simp; omega)) _) | (refine Below.drew ?_) | (refine Below.drewN ?_ _) | (refine Below.next (by assumption) ?_ (by first | omega | (simp; done) | (simp; omega)))))⟩
  · cases hb : isSp b
    · go_enter Try.func9, Try.ntmps9
      go_wp2_with (first | (go_at_call 73; refine (isSpot_any _ _).mono ?_; rintro e w' ⟨rfl, o, rfl⟩))
      go_ret2
      exact ⟨by simp [sndV, ha, hb], by (repeat (first | exact Below.refl _ _ | assumption | (refine Below.alloc ?_ (by first | omega | (simp; done) | (simp; omega)) _) | (refine Below.setCell ?_ (by first | omega | (simp; done) | (simp; omega)) _) | (refine Below.drew ?_) | (refine Below.drewN ?_ _) | (refine Below.next (by assumption) ?_ (by first | omega | (simp; done) | (simp; omega)))))⟩
    · go_enter Try.func9, Try.ntmps9
      go_wp2_with (first | (go_at_call 73; refine (isSpot_any _ _).mono ?_; rintro e w' ⟨rfl, o, rfl⟩) | (go_at_call 74; refine (soundTime_any a b ha hb _).mono ?_; rintro e w' ⟨rfl, hq⟩; obtain ⟨hz, hc, hf⟩ := bel hq; (try simp at hz); (try have gz1 : w.heap.size < w'.heap.size := by omega); (try have gz2 : w.heap.size + 1 < w'.heap.size := by omega); (try have gz3 : wr.heap.size < w'.heap.size := by omega)))
      go_ret2
      exact ⟨by simp [sndV, ha, hb], by (repeat (first | exact Below.refl _ _ | assumption | (refine Below.alloc ?_ (by first | omega | (simp; done) | (simp; omega)) _) | (refine Below.setCell ?_ (by first | omega | (simp; done) | (simp; omega)) _) | (refine Below.drew ?_) | (refine Below.drewN ?_ _) | (refine Below.next (by assumption) ?_ (by first | omega | (simp; done) | (simp; omega)))))⟩
end Go.Proofs.Ytdipmjflgjlfeaa
