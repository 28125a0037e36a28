/-
  Plain mathematics: the reference's first least matching of padded costs picks what the program's cover picks.
-/
import Derived.Test.YthppancpecjegaaMau
namespace Go.Proofs.Ythppancpecjegaa
open Go.RowKit

/-- What the program's row picks behind its first columns. -/
def lcB (c : Nat → Nat → Int) (n m i t : Nat) : Nat → Int
  | 0 => -1
  | j + 1 => if lcB c n m i t j < 0 ∧ t.testBit j = false ∧ c i j + bst c n m (m - (i + 1)) (t ||| 2 ^ j) = bst c n m (m - i) t then (j : Int) else lcB c n m i t j
def lcS (c : Nat → Nat → Int) (n m : Nat) : Nat → Nat × List Int
  | 0 => (0, [])
  | i + 1 => ((lcS c n m i).1 ||| 2 ^ (lcB c n m i (lcS c n m i).1 n).toNat, (lcS c n m i).2 ++ [lcB c n m i (lcS c n m i).1 n])

theorem pad_bd {c : Nat → Nat → Int} {n m : Nat} (hmn : m ≤ n) (hc : ∀ i k, i < m → k < n → 0 ≤ c i k ∧ c i k ≤ 2100000) : ∀ i k, i < n → k < n → 0 ≤ pad c m i k ∧ pad c m i k ≤ 2100000 := by
  intro i k hi hk
  unfold pad
  split
  · rename_i h; exact hc i k h hk
  · omega
theorem pop_nil : ∀ n, pop n 0 = 0
  | 0 => rfl
  | n + 1 => by rw [pop, pop_nil n]; simp
theorem pop_compl {n t : Nat} : pop n (comp n t) = n - pop n t := by
  have := pop_comp t n n (Nat.le_refl _)
  omega
/-- The least sums agree. -/
theorem TT_bst {c : Nat → Nat → Int} {n m : Nat} (hmn : m ≤ n) (hn : n ≤ 12) (hc : ∀ i k, i < m → k < n → 0 ≤ c i k ∧ c i k ≤ 2100000) {i t : Nat} (hi : i ≤ m) (hp : pop n t = i) : TT (pad c m) n (comp n t) = bst c n m (m - i) t := by
  have h := tab_bst hmn hn hc (m - i) t (by omega) (by omega)
  rw [TT, pop_compl, hp, ← h, show m - (m - i) = i by omega]
theorem lcB_eq {c : Nat → Nat → Int} {n m : Nat} (hmn : m ≤ n) (hn : n ≤ 12) (hc : ∀ i k, i < m → k < n → 0 ≤ c i k ∧ c i k ≤ 2100000) {i t : Nat} (hi : i < m) (hp : pop n t = i) : ∀ j, j ≤ n → mlB (pad c m) n i (comp n t) j = lcB c n m i t j
  | 0, _ => rfl
  | j + 1, hj => by
    have ih := lcB_eq hmn hn hc hi hp j (by omega)
    rw [mlB, lcB, ih, comp_tb (show j < n by omega), TT_bst hmn hn hc (by omega) hp]
    cases hb : t.testBit j
    · have e := TT_bst hmn hn hc (i := i + 1) (t := t ||| 2 ^ j) (by omega) (by rw [pop_or hb, if_pos (by omega)]; omega)
      rw [comp_or hb, e, pad, if_pos hi]
      simp
    · simp
/-- Row by row the same is picked. -/
theorem lcS_eq {c : Nat → Nat → Int} {n m : Nat} (hmn : m ≤ n) (hn : n ≤ 12) (hc : ∀ i k, i < m → k < n → 0 ≤ c i k ∧ c i k ≤ 2100000) : ∀ i, i ≤ m → (mlS (pad c m) n i).1 = comp n (lcS c n m i).1 ∧ (mlS (pad c m) n i).2 = (lcS c n m i).2 ∧ pop n (lcS c n m i).1 = i
  | 0, _ => by
    refine ⟨?_, rfl, ?_⟩
    · show 2 ^ n - 1 = comp n 0
      simp [comp]
    · show pop n 0 = 0
      exact pop_nil n
  | i + 1, hi => by
    obtain ⟨h1, h2, h3⟩ := lcS_eq hmn hn hc i (by omega)
    have hs := mlS_spec hn (pad_bd hmn hc) i (by omega)
    obtain ⟨k, k1, k2, k3⟩ := mlB_some hn (show i < n by omega) (pad_bd hmn hc) hs.2.1
    rw [h1] at k2 k3
    have hB := lcB_eq hmn hn hc (show i < m by omega) h3 n (Nat.le_refl _)
    rcases mlB_spec (c := pad c m) (n := n) (i := i) (S := comp n (lcS c n m i).1) n with ⟨_, g2⟩ | ⟨j, g1, g2, g3, g4, g5⟩
    · exact absurd ⟨k2, k3⟩ (g2 k k1)
    · rw [comp_tb g1] at g3
      have hb : (lcS c n m i).1.testBit j = false := by simpa using g3
      rw [g2] at hB
      have e1 : mlS (pad c m) n (i + 1) = (comp n ((lcS c n m i).1 ||| 2 ^ j), (lcS c n m i).2 ++ [(j : Int)]) := by
        rw [mlS, h1, h2, g2, ← comp_or hb]; rfl
      have e2 : lcS c n m (i + 1) = ((lcS c n m i).1 ||| 2 ^ j, (lcS c n m i).2 ++ [(j : Int)]) := by
        rw [lcS, ← hB]; rfl
      rw [e1, e2]
      refine ⟨rfl, rfl, ?_⟩
      have := pop_or hb n
      rw [if_pos g1, h3] at this
      exact this
end Go.Proofs.Ythppancpecjegaa
