/-
  Facts for the law of absences: the worst one is the greatest; lists compared; squares asked for.
-/
import Derived.Test.YthppancpecjegaaAcq
import Derived.Test.YthppancpecjegaaDrh
import Derived.Test.YthppancpecjegaaCov
import Derived.Test.YthppancpecjegaaLws
namespace Go.Proofs.Ythppancpecjegaa
open Go.RowKit

/-- Who is worst among the first k: the greatest sum, the first of these. -/
theorem waS_best {L : List Sp} {n : List Int} (h : abOk L [] n = true) : ∀ k, k ≤ L.length → (waS L n k = (-1, -1) ∧ ∀ j : Nat, j < k → lcA L [(j : Int)] n = false) ∨
    ∃ i : Nat, i < k ∧ waS L n k = ((i : Int), lcN L [(i : Int)] n) ∧ lcA L [(i : Int)] n = true ∧ ∀ j : Nat, j < k → lcA L [(j : Int)] n = true → lcN L [(j : Int)] n ≤ lcN L [(i : Int)] n ∧ (lcN L [(j : Int)] n = lcN L [(i : Int)] n → i ≤ j)
  | 0, _ => .inl ⟨rfl, fun j hj => by omega⟩
  | k + 1, hk => by
    have hnn := lcN_nonneg (one_ok h (show k < L.length by omega))
    rcases waS_best h k (by omega) with ⟨h1, h2⟩ | ⟨i, h1, h2, h3, h4⟩
    · cases hA : lcA L [(k : Int)] n
      · refine .inl ⟨by rw [waS, hA, if_neg (by simp)]; exact h1, fun j hj => ?_⟩
        by_cases e : j = k
        · subst e; exact hA
        · exact h2 j (by omega)
      · refine .inr ⟨k, by omega, by rw [waS, hA, h1, if_pos ⟨rfl, by show (-1 : Int) < _; omega⟩], hA, fun j hj hj2 => ?_⟩
        by_cases e : j = k
        · subst e; exact ⟨Int.le_refl _, fun _ => Nat.le_refl _⟩
        · rw [h2 j (by omega)] at hj2; cases hj2
    · by_cases hc : lcA L [(k : Int)] n = true ∧ lcN L [(i : Int)] n < lcN L [(k : Int)] n
      · refine .inr ⟨k, by omega, by rw [waS, h2, if_pos hc], hc.1, fun j hj hj2 => ?_⟩
        by_cases e : j = k
        · subst e; exact ⟨Int.le_refl _, fun _ => Nat.le_refl _⟩
        · have := (h4 j (by omega) hj2).1
          exact ⟨by omega, fun e => by omega⟩
      · refine .inr ⟨i, by omega, by rw [waS, h2, if_neg hc], h3, fun j hj hj2 => ?_⟩
        by_cases e : j = k
        · subst e
          have : ¬ lcN L [(i : Int)] n < lcN L [(j : Int)] n := fun h => hc ⟨hj2, h⟩
          exact ⟨by omega, fun _ => by omega⟩
        · exact h4 j (by omega) hj2
/-- What the law asks of each performer. -/
theorem wk_facts {L : List Sp} {n : List Int} (h : wkB L n = true) {i : Nat} (hi : i < L.length) : abOk L [(i : Int)] n = true ∧ (lcA L [(i : Int)] n = true → lcN L [(i : Int)] n ≤ wkN L n ∧ (lcN L [(i : Int)] n = wkN L n → wkV L n ≤ (i : Int))) ∧ ((i : Int) = wkV L n → lcA L [(i : Int)] n = true ∧ lcN L [(i : Int)] n = wkN L n) := by
  have h0 := h
  simp only [wkB, Bool.and_eq_true, decide_eq_true_eq] at h0
  refine ⟨one_ok h0.1 hi, ?_⟩
  have e1 : wkN L n = (waS L n L.length).2 := by rw [wkN, h]; rfl
  have e2 : wkV L n = (waS L n L.length).1 := by rw [wkV, h]; rfl
  rcases waS_best h0.1 L.length (Nat.le_refl _) with ⟨h1, _⟩ | ⟨m, h1, h2, h3, h4⟩
  · rw [h1] at h0
    exact absurd h0.2 (by show ¬ (0 : Int) ≤ -1; omega)
  · rw [e1, e2, h2]
    refine ⟨fun hA => ?_, fun e => ?_⟩
    · have := h4 i hi hA
      exact ⟨this.1, fun e => by have := this.2 e; show (m : Int) ≤ i; omega⟩
    · have : i = m := by have e' : (i : Int) = (m : Int) := e; omega
      subst this
      exact ⟨h3, rfl⟩

set_option maxRecDepth 100000 in
theorem qSpots_same (A B : Option Addr) (c d : Nat) (L : List Sp) (w : World) (hm : Mem w A (spots L)) (hn : Mem w B (spots L)) (hl : L.length ≤ 1048576) : Calls Try.prog 29 #[.slice A L.length c, .slice B L.length d] w fun e w' => e = .returned (.bool true) ∧ Below w.heap.size w w' := by
  go_enter Try.func29, Try.ntmps29
  go_wp2
  go_loopw [5, 13] (fun _ i wr => ∃ k : Nat, k ≤ L.length ∧ i = .int .i64 k ∧ Below w.heap.size w wr) (fun _ i _ => L.length - (intOf i).toNat)
  case atStart => exact ⟨0, by omega, rfl, Below.refl _ _⟩
  case round =>
    obtain ⟨k, hk, rfl, hb⟩ := hrel
    by_cases hlt : k < L.length
    · obtain ⟨s, hs⟩ := some_of_lt hlt
      obtain ⟨b, off, rfl, h1, h2⟩ := (hm.below hb).spot hs
      obtain ⟨b', off', rfl, h3, h4⟩ := (hn.below hb).spot hs
      clear hs
      go_wp2
      go_quiet (fail)
      go_wp2
      go_roundw
      case rel => exact ⟨k + 1, by omega, by go_num, Below.drewN hb _⟩
      case measure => simp [intOf]; omega
    · go_wp2
      go_ret
      exact ⟨rfl, hb⟩
end Go.Proofs.Ythppancpecjegaa
