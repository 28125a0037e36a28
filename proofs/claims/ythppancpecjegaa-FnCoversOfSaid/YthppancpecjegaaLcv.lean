/-
  Plain mathematics: two tables of least sums (over the sets of columns that are left, and over those that are taken) say the same.
-/
import Derived.Test.YthppancpecjegaaBit
namespace Go.Proofs.Ythppancpecjegaa
open Go.RowKit

def pop : Nat → Nat → Nat
  | 0, _ => 0
  | n + 1, s => pop n s + (if s.testBit n then 1 else 0)
/-- The least of the values at the columns of a set. -/
def mnT (g : Nat → Int) (s : Nat) : Nat → Int
  | 0 => 1000000000
  | k + 1 => if s.testBit k then min (mnT g s k) (g k) else mnT g s k
/-- The least of the values at the columns that are free. -/
def mnB (g : Nat → Int) (t : Nat) : Nat → Int
  | 0 => 1099511627776
  | k + 1 => if t.testBit k then mnB g t k else min (mnB g t k) (g k)
def tab (c : Nat → Nat → Int) (n : Nat) : Nat → Nat → Int
  | 0, _ => 0
  | f + 1, s => mnT (fun k => c (n - (f + 1)) k + tab c n f (s ^^^ 2 ^ k)) s n
def bst (c : Nat → Nat → Int) (n m : Nat) : Nat → Nat → Int
  | 0, _ => 0
  | r + 1, t => mnB (fun k => c (m - (r + 1)) k + bst c n m r (t ||| 2 ^ k)) t n
/-- Costs of rows that stand for columns that stay. -/
def pad (c : Nat → Nat → Int) (m : Nat) (i k : Nat) : Int := if i < m then c i k else 0
def comp (n t : Nat) : Nat := (2 ^ n - 1) ^^^ t

theorem tb_pow (i k : Nat) : (2 ^ i).testBit k = decide (i = k) := Nat.testBit_two_pow
theorem comp_tb {n t k : Nat} (h : k < n) : (comp n t).testBit k = !t.testBit k := by
  simp [comp, Nat.testBit_two_pow_sub_one, h]
theorem pop_le : ∀ (n s : Nat), pop n s ≤ n
  | 0, _ => Nat.le_refl _
  | n + 1, s => by
    have := pop_le n s
    rw [pop]; split <;> omega
theorem pop_xor {s k : Nat} (hk : s.testBit k = true) : ∀ n, pop n (s ^^^ 2 ^ k) + (if k < n then 1 else 0) = pop n s
  | 0 => by simp [pop]
  | n + 1 => by
    have ih := pop_xor hk n
    rw [pop, pop, Nat.testBit_xor, tb_pow]
    by_cases h : k = n
    · subst h
      rw [hk]
      simp at ih ⊢
      omega
    · simp only [h, decide_false, Bool.xor_false]
      by_cases h2 : k < n
      · rw [if_pos h2] at ih
        rw [if_pos (show k < n + 1 by omega)]
        omega
      · rw [if_neg h2] at ih
        rw [if_neg (show ¬ k < n + 1 by omega)]
        omega
theorem pop_or {t k : Nat} (hk : t.testBit k = false) : ∀ n, pop n (t ||| 2 ^ k) = pop n t + (if k < n then 1 else 0)
  | 0 => by simp [pop]
  | n + 1 => by
    have ih := pop_or hk n
    rw [pop, pop, Nat.testBit_or, tb_pow]
    by_cases h : k = n
    · subst h
      rw [hk]
      simp at ih ⊢
      omega
    · simp only [h, decide_false, Bool.or_false]
      by_cases h2 : k < n
      · rw [if_pos h2] at ih
        rw [if_pos (show k < n + 1 by omega)]
        omega
      · rw [if_neg h2] at ih
        rw [if_neg (show ¬ k < n + 1 by omega)]
        omega
theorem pop_comp (t : Nat) : ∀ n N, n ≤ N → pop n (comp N t) + pop n t = n
  | 0, _, _ => rfl
  | n + 1, N, h => by
    have ih := pop_comp t n N (by omega)
    rw [pop, pop, comp_tb (by omega)]
    cases t.testBit n <;> simp <;> omega
theorem comp_or {n t k : Nat} (hk : t.testBit k = false) : comp n t ^^^ 2 ^ k = comp n (t ||| 2 ^ k) := by
  apply Nat.eq_of_testBit_eq
  intro i
  simp only [comp, Nat.testBit_xor, Nat.testBit_or, tb_pow]
  by_cases h : k = i
  · subst h; simp [hk]
  · simp [h]
theorem pop_lt_free {t : Nat} : ∀ n, pop n t < n → ∃ k, k < n ∧ t.testBit k = false
  | 0, h => by omega
  | n + 1, h => by
    rw [pop] at h
    cases hb : t.testBit n
    · exact ⟨n, by omega, hb⟩
    · rw [hb] at h
      simp at h
      obtain ⟨k, h1, h2⟩ := pop_lt_free n h
      exact ⟨k, by omega, h2⟩
theorem mnB_le {g : Nat → Int} {t : Nat} : ∀ n, (mnB g t n ≤ 1099511627776) ∧ ∀ k, k < n → t.testBit k = false → mnB g t n ≤ g k
  | 0 => ⟨Int.le_refl _, fun k h => by omega⟩
  | n + 1 => by
    obtain ⟨h1, h2⟩ := mnB_le n (g := g) (t := t)
    rw [mnB]
    split
    · rename_i hb
      refine ⟨h1, fun k hk hf => ?_⟩
      by_cases e : k = n
      · subst e; rw [hb] at hf; cases hf
      · exact h2 k (by omega) hf
    · refine ⟨by omega, fun k hk hf => ?_⟩
      by_cases e : k = n
      · subst e; omega
      · have := h2 k (by omega) hf; omega
theorem mnB_at {g : Nat → Int} {t : Nat} : ∀ n, mnB g t n = 1099511627776 ∨ ∃ k, k < n ∧ t.testBit k = false ∧ g k = mnB g t n
  | 0 => .inl rfl
  | n + 1 => by
    rw [mnB]
    split
    · rcases mnB_at n (g := g) (t := t) with h | ⟨k, h1, h2, h3⟩
      · exact .inl h
      · exact .inr ⟨k, by omega, h2, h3⟩
    · rename_i hb
      by_cases h5 : mnB g t n ≤ g n
      · rw [Int.min_eq_left h5]
        rcases mnB_at n (g := g) (t := t) with h | ⟨k, h1, h2, h3⟩
        · exact .inl h
        · exact .inr ⟨k, by omega, h2, h3⟩
      · rw [Int.min_eq_right (by omega)]
        exact .inr ⟨n, by omega, by simpa using hb, rfl⟩
theorem mnT_eq {g g' : Nat → Int} {s t N : Nat} (hst : ∀ k, k < N → s.testBit k = !t.testBit k) (hg : ∀ k, k < N → t.testBit k = false → g k = g' k) (hc : ∀ k, k < N → t.testBit k = false → g k ≤ 1000000000) : ∀ n, n ≤ N → (mnT g s n ≤ 1000000000 ∧ mnT g s n = min 1000000000 (mnB g' t n))
  | 0, _ => ⟨Int.le_refl _, by show (1000000000 : Int) = min 1000000000 1099511627776; omega⟩
  | n + 1, h => by
    obtain ⟨h1, h2⟩ := mnT_eq hst hg hc n (by omega)
    rw [mnT, mnB, hst n (by omega)]
    cases hb : t.testBit n
    · simp only [Bool.not_false, if_true, Bool.false_eq_true, if_false]
      have := hc n (by omega) hb
      have := hg n (by omega) hb
      omega
    · simp only [Bool.not_true, Bool.false_eq_true, if_false, if_true]
      exact ⟨h1, h2⟩
/-- Bounds of the table over the taken. -/
theorem bst_bd {c : Nat → Nat → Int} {n m : Nat} (hc : ∀ i k, i < m → k < n → 0 ≤ c i k ∧ c i k ≤ 2100000) : ∀ r t, r ≤ m → 0 ≤ bst c n m r t ∧ bst c n m r t ≤ 1099511627776
  | 0, _, _ => ⟨Int.le_refl _, by show (0 : Int) ≤ _; omega⟩
  | r + 1, t, hr => by
    refine ⟨?_, (mnB_le n).1⟩
    rcases mnB_at n (g := fun k => c (m - (r + 1)) k + bst c n m r (t ||| 2 ^ k)) (t := t) with h | ⟨k, h1, h2, h3⟩
    · rw [bst, h]; omega
    · rw [bst, ← h3]
      have := (hc (m - (r + 1)) k (by omega) h1).1
      have := (bst_bd hc r (t ||| 2 ^ k) (by omega)).1
      show 0 ≤ _ + _
      omega
theorem bst_small {c : Nat → Nat → Int} {n m : Nat} (hc : ∀ i k, i < m → k < n → 0 ≤ c i k ∧ c i k ≤ 2100000) : ∀ r t, r ≤ m → pop n t + r ≤ n → bst c n m r t ≤ 2100000 * r
  | 0, _, _, _ => by show (0 : Int) ≤ _; omega
  | r + 1, t, hr, hp => by
    obtain ⟨k, h1, h2⟩ := pop_lt_free n (t := t) (by omega)
    have h3 := (mnB_le n (g := fun k => c (m - (r + 1)) k + bst c n m r (t ||| 2 ^ k)) (t := t)).2 k h1 h2
    have h4 := (hc (m - (r + 1)) k (by omega) h1).2
    have h5 := bst_small hc r (t ||| 2 ^ k) (by omega) (by rw [pop_or h2, if_pos h1]; omega)
    rw [bst]
    refine Int.le_trans h3 ?_
    show _ + _ ≤ _
    omega
theorem tab_zero {c : Nat → Nat → Int} {n m : Nat} : ∀ f s, f ≤ n - m → pop n s = f → tab (pad c m) n f s = 0
  | 0, _, _, _ => rfl
  | f + 1, s, hf, hp => by
    have key : ∀ k, s.testBit k = true → k < n → pad c m (n - (f + 1)) k + tab (pad c m) n f (s ^^^ 2 ^ k) = 0 := by
      intro k hk hkn
      have h1 := pop_xor hk n
      rw [if_pos hkn] at h1
      rw [tab_zero f _ (by omega) (by omega), pad, if_neg (by omega)]
      rfl
    have all : ∀ j, j ≤ n → (mnT (fun k => pad c m (n - (f + 1)) k + tab (pad c m) n f (s ^^^ 2 ^ k)) s j = if 0 < pop j s then 0 else 1000000000) := by
      intro j
      induction j with
      | zero => intro _; rfl
      | succ j ih =>
        intro hj
        rw [mnT, pop, ih (by omega)]
        cases hb : s.testBit j
        · simp
        · have := key j hb (by omega)
          simp only [this, if_true]
          split <;> simp <;> omega
    rw [tab, all n (Nat.le_refl _), if_pos (by omega)]
/-- Both tables say the same. -/
theorem tab_bst {c : Nat → Nat → Int} {n m : Nat} (hmn : m ≤ n) (hn : n ≤ 12) (hc : ∀ i k, i < m → k < n → 0 ≤ c i k ∧ c i k ≤ 2100000) : ∀ r t, r ≤ m → pop n t = m - r → tab (pad c m) n (n - (m - r)) (comp n t) = bst c n m r t
  | 0, t, _, hp => by
    have := pop_comp t n n (Nat.le_refl _)
    exact tab_zero _ _ (by omega) (by omega)
  | r + 1, t, hr, hp => by
    have e : n - (m - (r + 1)) = (n - (m - r)) + 1 := by omega
    rw [e, tab, bst]
    have e2 : n - (n - (m - r) + 1) = m - (r + 1) := by omega
    rw [e2]
    have h5 := mnT_eq (g := fun k => pad c m (m - (r + 1)) k + tab (pad c m) n (n - (m - r)) (comp n t ^^^ 2 ^ k)) (g' := fun k => c (m - (r + 1)) k + bst c n m r (t ||| 2 ^ k)) (s := comp n t) (t := t) (N := n) (fun k hk => comp_tb hk)
      (fun k hk hf => by
        show pad c m (m - (r + 1)) k + _ = c (m - (r + 1)) k + _
        rw [comp_or hf, tab_bst hmn hn hc r (t ||| 2 ^ k) (by omega) (by rw [pop_or hf, if_pos hk]; omega), pad, if_pos (by omega)])
      (fun k hk hf => by
        show pad c m (m - (r + 1)) k + _ ≤ _
        rw [comp_or hf, tab_bst hmn hn hc r (t ||| 2 ^ k) (by omega) (by rw [pop_or hf, if_pos hk]; omega), pad, if_pos (by omega)]
        have := (hc (m - (r + 1)) k (by omega) hk).2
        have := bst_small hc r (t ||| 2 ^ k) (by omega) (by rw [pop_or hf, if_pos hk]; omega)
        omega) n (Nat.le_refl _)
    rw [h5.2]
    have h6 := bst_small hc (r + 1) t hr (by omega)
    rw [bst] at h6
    omega
end Go.Proofs.Ythppancpecjegaa
