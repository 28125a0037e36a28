/-
  Facts for the law of covers: no cover has a less sum than the least one; the least one is a cover.
-/
import Derived.Test.YthppancpecjegaaAcq
namespace Go.Proofs.Ythppancpecjegaa
open Go.RowKit

/-- The columns that a cover picks. -/
structure Picks (sp mv : List Int) (p : Nat → Nat) : Prop where
  lt : ∀ i, i < mv.length → p i < sp.length
  at_ : ∀ i (x : Int), mv[i]? = some x → sp[p i]? = some x
  inj : ∀ i j, i < j → j < mv.length → p i ≠ p j
theorem cov_picks {sp mv : List Int} (h : covTo sp mv mv.length = true) : ∃ p, Picks sp mv p := by
  refine ⟨fun i => match mv[i]? with | some x => (idx sp x).toNat | none => 0, ?_, ?_, ?_⟩
  · intro i hi
    obtain ⟨x, hx⟩ := some_of_lt hi
    obtain ⟨h1, _⟩ := covTo_at h hi hx
    obtain ⟨k, e, hk, _⟩ := idx_some h1
    simp only [hx, e, Int.toNat_natCast]
    exact (List.getElem?_eq_some_iff.1 hk).1
  · intro i x hx
    have hi := (List.getElem?_eq_some_iff.1 hx).1
    obtain ⟨h1, _⟩ := covTo_at h hi hx
    obtain ⟨k, e, hk, _⟩ := idx_some h1
    simp only [hx, e, Int.toNat_natCast]
    exact hk
  · intro i j hij hj e
    obtain ⟨x, hx⟩ := some_of_lt (show i < mv.length by omega)
    obtain ⟨y, hy⟩ := some_of_lt hj
    obtain ⟨h1, _⟩ := covTo_at h (show i < mv.length by omega) hx
    obtain ⟨h2, h3⟩ := covTo_at h hj hy
    obtain ⟨k, e1, hk, _⟩ := idx_some h1
    obtain ⟨l, e2, hl, _⟩ := idx_some h2
    simp only [hx, hy, e1, e2, Int.toNat_natCast] at e
    subst e
    rw [hk] at hl
    cases hl
    rw [has_take hx hij] at h3
    cases h3
/-- The columns taken by the first i. -/
def taken (p : Nat → Nat) : Nat → Nat
  | 0 => 0
  | i + 1 => taken p i ||| 2 ^ p i
theorem taken_bit (p : Nat → Nat) (k : Nat) : ∀ i, (taken p i).testBit k = true → ∃ j, j < i ∧ p j = k
  | 0, h => by simp [taken] at h
  | i + 1, h => by
    rw [taken, or_test, Bool.or_eq_true] at h
    rcases h with h | h
    · obtain ⟨j, h1, h2⟩ := taken_bit p k i h
      exact ⟨j, by omega, h2⟩
    · exact ⟨i, by omega, by simpa using h⟩
theorem taken_no {sp mv : List Int} {p : Nat → Nat} (h : Picks sp mv p) {i k : Nat} (hik : i ≤ k) (hk : k < mv.length) : (taken p i).testBit (p k) = false := by
  cases e : (taken p i).testBit (p k) with
  | false => rfl
  | true =>
    obtain ⟨j, h1, h2⟩ := taken_bit p (p k) i e
    exact absurd h2 (h.inj j k (by omega) hk)
theorem taken_pop {sp mv : List Int} {p : Nat → Nat} (h : Picks sp mv p) : ∀ i, i ≤ mv.length → pop sp.length (taken p i) = i
  | 0, _ => pop_nil _
  | i + 1, hi => by
    have ih := taken_pop h i (by omega)
    have := pop_or (taken_no h (Nat.le_refl i) (show i < mv.length by omega)) sp.length
    rw [if_pos (h.lt i (by omega)), ih] at this
    exact this
/-- A cover has no more movers than there are spare performers. -/
theorem cov_le {sp mv : List Int} (h : covTo sp mv mv.length = true) : mv.length ≤ sp.length := by
  obtain ⟨p, hp⟩ := cov_picks h
  have := taken_pop hp mv.length (Nat.le_refl _)
  have := pop_le sp.length (taken p mv.length)
  omega
/-- The sum of a choice from the i-th row on. -/
def sumFrom (c : Nat → Nat → Int) (p : Nat → Nat) (m : Nat) : Nat → Int
  | 0 => 0
  | r + 1 => c (m - (r + 1)) (p (m - (r + 1))) + sumFrom c p m r
/-- The table's numbers are below the sum of any choice. -/
theorem bst_sum {sp mv : List Int} {p : Nat → Nat} (h : Picks sp mv p) (c : Nat → Nat → Int) : ∀ r, r ≤ mv.length → bst c sp.length mv.length r (taken p (mv.length - r)) ≤ sumFrom c p mv.length r
  | 0, _ => Int.le_refl _
  | r + 1, hr => by
    have ih := bst_sum h c r (by omega)
    have hlt : mv.length - (r + 1) < mv.length := by omega
    rw [bst, sumFrom]
    refine Int.le_trans ((mnB_le sp.length).2 (p (mv.length - (r + 1))) (h.lt _ hlt) (taken_no h (Nat.le_refl _) hlt)) ?_
    have e : taken p (mv.length - (r + 1)) ||| 2 ^ p (mv.length - (r + 1)) = taken p (mv.length - r) := by
      rw [show mv.length - r = (mv.length - (r + 1)) + 1 by omega, taken]
    rw [e]
    omega
end Go.Proofs.Ythppancpecjegaa
