/-
  The reference's first least matching: what it picks, row by row.
-/
import Derived.Test.YthehcjfljjfnmaaGreatMat
namespace Go.Proofs.YthehcjfljjfnmaaGreat
open Go.RowKit

/-- The least sum of a set of columns. -/
def TT (c : Nat → Nat → Int) (n S : Nat) : Int := tab c n (pop n S) S
/-- What a row has picked behind its first columns. -/
def mlB (c : Nat → Nat → Int) (n i S : Nat) : Nat → Int
  | 0 => -1
  | j + 1 => if mlB c n i S j < 0 ∧ S.testBit j = true ∧ c i j + TT c n (S ^^^ 2 ^ j) = TT c n S then (j : Int) else mlB c n i S j
def mlS (c : Nat → Nat → Int) (n : Nat) : Nat → Nat × List Int
  | 0 => (2 ^ n - 1, [])
  | i + 1 => ((mlS c n i).1 ^^^ 2 ^ (mlB c n i (mlS c n i).1 n).toNat, (mlS c n i).2 ++ [mlB c n i (mlS c n i).1 n])

theorem mnT_at {g : Nat → Int} {s : Nat} : ∀ k, mnT g s k = 1000000000 ∨ ∃ j, j < k ∧ s.testBit j = true ∧ g j = mnT g s k
  | 0 => .inl rfl
  | k + 1 => by
    rw [mnT]
    split
    · rename_i hb
      by_cases h : mnT g s k ≤ g k
      · rw [Int.min_eq_left h]
        rcases mnT_at k (g := g) (s := s) with h1 | ⟨j, h1, h2, h3⟩
        · exact .inl h1
        · exact .inr ⟨j, by omega, h2, h3⟩
      · rw [Int.min_eq_right (by omega)]
        exact .inr ⟨k, by omega, hb, rfl⟩
    · rcases mnT_at k (g := g) (s := s) with h1 | ⟨j, h1, h2, h3⟩
      · exact .inl h1
      · exact .inr ⟨j, by omega, h2, h3⟩
theorem mnT_le {g : Nat → Int} {s : Nat} : ∀ k j, j < k → s.testBit j = true → mnT g s k ≤ g j
  | 0, j, h, _ => by omega
  | k + 1, j, h, hb => by
    rw [mnT]
    by_cases e : j = k
    · subst e; rw [if_pos hb]; omega
    · have := mnT_le (g := g) k j (by omega) hb
      split <;> omega
theorem pop_some {n s : Nat} : ∀ {k : Nat}, 1 ≤ pop k s → k ≤ n → ∃ j, j < k ∧ s.testBit j = true
  | 0, h, _ => by rw [pop] at h; omega
  | k + 1, h, hk => by
    rw [pop] at h
    cases hb : s.testBit k
    · rw [hb] at h
      obtain ⟨j, h1, h2⟩ := pop_some (n := n) (k := k) (s := s) (by simpa using h) (by omega)
      exact ⟨j, by omega, h2⟩
    · exact ⟨k, by omega, hb⟩
/-- Sums of least matchings stay small. -/
theorem tab_small {c : Nat → Nat → Int} {n : Nat} (hc : ∀ i k, i < n → k < n → 0 ≤ c i k ∧ c i k ≤ 2100000) : ∀ f s, f ≤ n → pop n s = f → tab c n f s ≤ 2100000 * f
  | 0, s, _, _ => by rw [tab]; omega
  | f + 1, s, hf, hp => by
    rw [tab]
    obtain ⟨j, hj, hb⟩ := pop_some (n := n) (k := n) (s := s) (by omega) (Nat.le_refl _)
    have h1 := mnT_le (g := fun k => c (n - (f + 1)) k + tab c n f (s ^^^ 2 ^ k)) n j hj hb
    have h2 := (hc (n - (f + 1)) j (by omega) hj).2
    have h3 := tab_small hc f (s ^^^ 2 ^ j) (by omega) (by have := pop_xor hb n; rw [if_pos hj] at this; omega)
    have h4 : mnT (fun k => c (n - (f + 1)) k + tab c n f (s ^^^ 2 ^ k)) s n ≤ c (n - (f + 1)) j + tab c n f (s ^^^ 2 ^ j) := h1
    omega
/-- A row finds its column. -/
theorem mlB_some {c : Nat → Nat → Int} {n i S : Nat} (hn : n ≤ 12) (hi : i < n) (hc : ∀ i k, i < n → k < n → 0 ≤ c i k ∧ c i k ≤ 2100000) (hp : pop n S = n - i) : ∃ k, k < n ∧ S.testBit k = true ∧ c i k + TT c n (S ^^^ 2 ^ k) = TT c n S := by
  obtain ⟨f, hf⟩ : ∃ f, n - i = f + 1 := ⟨n - i - 1, by omega⟩
  rw [hf] at hp
  have e : TT c n S = mnT (fun k => c i k + tab c n f (S ^^^ 2 ^ k)) S n := by
    rw [TT, hp, tab, show n - (f + 1) = i by omega]
  have hs := tab_small hc (f + 1) S (by omega) hp
  rcases mnT_at (g := fun k => c i k + tab c n f (S ^^^ 2 ^ k)) (s := S) n with h | ⟨j, h1, h2, h3⟩
  · rw [TT, hp] at e
    omega
  · refine ⟨j, h1, h2, ?_⟩
    have hpx : pop n (S ^^^ 2 ^ j) = f := by have := pop_xor h2 n; rw [if_pos h1] at this; omega
    rw [e, ← h3, TT, hpx]
theorem mlB_spec {c : Nat → Nat → Int} {n i S : Nat} : ∀ j, (mlB c n i S j = -1 ∧ ∀ k, k < j → ¬ (S.testBit k = true ∧ c i k + TT c n (S ^^^ 2 ^ k) = TT c n S)) ∨ ∃ k, k < j ∧ mlB c n i S j = (k : Int) ∧ S.testBit k = true ∧ c i k + TT c n (S ^^^ 2 ^ k) = TT c n S ∧ ∀ l, l < k → ¬ (S.testBit l = true ∧ c i l + TT c n (S ^^^ 2 ^ l) = TT c n S)
  | 0 => .inl ⟨rfl, fun k h => by omega⟩
  | j + 1 => by
    rw [mlB]
    rcases mlB_spec (c := c) (n := n) (i := i) (S := S) j with ⟨h1, h2⟩ | ⟨k, h1, h2, h3, h4, h5⟩
    · by_cases h : S.testBit j = true ∧ c i j + TT c n (S ^^^ 2 ^ j) = TT c n S
      · rw [if_pos ⟨by omega, h.1, h.2⟩]
        exact .inr ⟨j, by omega, rfl, h.1, h.2, h2⟩
      · rw [if_neg (fun h' => h ⟨h'.2.1, h'.2.2⟩)]
        refine .inl ⟨h1, fun k hk => ?_⟩
        by_cases e : k = j
        · subst e; exact h
        · exact h2 k (by omega)
    · rw [if_neg (fun h' => by omega)]
      exact .inr ⟨k, by omega, h2, h3, h4, h5⟩
/-- The state behind i rows. -/
theorem mlS_spec {c : Nat → Nat → Int} {n : Nat} (hn : n ≤ 12) (hc : ∀ i k, i < n → k < n → 0 ≤ c i k ∧ c i k ≤ 2100000) : ∀ i, i ≤ n → (mlS c n i).1 < 2 ^ n ∧ pop n (mlS c n i).1 = n - i ∧ (mlS c n i).2.length = i
  | 0, _ => by
    refine ⟨?_, ?_, rfl⟩
    · have := Nat.one_le_two_pow (n := n)
      show 2 ^ n - 1 < 2 ^ n
      omega
    · have h := pop_comp 0 n n (Nat.le_refl _)
      have e : ∀ n, pop n 0 = 0 := by
        intro n
        induction n with
        | zero => rfl
        | succ n ih => rw [pop, ih]; simp
      rw [e] at h
      have e2 : comp n 0 = 2 ^ n - 1 := by simp [comp]
      rw [e2] at h
      show pop n (2 ^ n - 1) = n - 0
      omega
  | i + 1, hi => by
    obtain ⟨h1, h2, h3⟩ := mlS_spec hn hc i (by omega)
    obtain ⟨k, k1, k2, k3⟩ := mlB_some hn (show i < n by omega) hc h2
    rcases mlB_spec (c := c) (n := n) (i := i) (S := (mlS c n i).1) n with ⟨_, g2⟩ | ⟨j, g1, g2, g3, g4, g5⟩
    · exact absurd ⟨k2, k3⟩ (g2 k k1)
    · have e : mlS c n (i + 1) = ((mlS c n i).1 ^^^ 2 ^ j, (mlS c n i).2 ++ [(j : Int)]) := by
        rw [mlS, g2]; rfl
      rw [e]
      refine ⟨?_, ?_, by simp [h3]⟩
      · have := xor_lt g3
        show (mlS c n i).1 ^^^ 2 ^ j < 2 ^ n
        omega
      · have := pop_xor g3 n
        rw [if_pos g1] at this
        show pop n ((mlS c n i).1 ^^^ 2 ^ j) = n - (i + 1)
        omega
end Go.Proofs.YthehcjfljjfnmaaGreat
