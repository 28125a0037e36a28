/-
  Facts for the law of covers: the sum of a cover; what the least cover picks.
-/
import Derived.Test.YthppancpecjegaaFcq
namespace Go.Proofs.Ythppancpecjegaa
open Go.RowKit

theorem spares_inj {a n : List Int} : ∀ {m i j : Nat} {x : Int}, (spares m a n)[i]? = some x → (spares m a n)[j]? = some x → i = j
  | 0, i, j, x, h, _ => by simp [spares, upTo] at h
  | m + 1, i, j, x, h1, h2 => by
    rw [spares_succ] at h1 h2
    split at h1
    · rename_i hc
      rw [if_pos hc] at h2
      have key : ∀ k : Nat, (spares m a n ++ [(m : Int)])[k]? = some x → (k < (spares m a n).length ∧ (spares m a n)[k]? = some x ∧ x < m) ∨ (k = (spares m a n).length ∧ x = m) := fun k hk => by
        by_cases hl : k < (spares m a n).length
        · rw [List.getElem?_append_left hl] at hk
          exact .inl ⟨hl, hk, (spares_mem (List.mem_of_getElem? hk)).2⟩
        · rw [List.getElem?_append_right (by omega)] at hk
          right
          have h0 : k - (spares m a n).length = 0 := by
            rcases Nat.eq_zero_or_pos (k - (spares m a n).length) with h | h
            · exact h
            · rw [List.getElem?_eq_none (by simp; omega)] at hk; cases hk
          rw [h0] at hk
          simp at hk
          exact ⟨by omega, hk.symm⟩
      rcases key i h1 with ⟨_, b1, b2⟩ | ⟨b1, b2⟩ <;> rcases key j h2 with ⟨_, d1, d2⟩ | ⟨d1, d2⟩
      · exact spares_inj b1 d1
      · omega
      · omega
      · omega
    · rename_i hc
      rw [if_neg hc] at h2
      exact spares_inj h1 h2
/-- The sum of a cover is the sum of what it picks. -/
theorem cTo_sum {L : List Sp} {sp op mv : List Int} {p : Nat → Nat} (h : Picks sp mv p) (ho : ∀ (k : Nat) (x : Int), op[k]? = some x → ∃ y : Nat, x = (y : Int) ∧ y < L.length) (hs : ∀ (k : Nat) (x : Int), mv[k]? = some x → ∃ y : Nat, x = (y : Int) ∧ y < L.length) (hl : mv.length = op.length) :
    ∀ k, k ≤ mv.length → cTo L mv op k + sumFrom (cst L op sp) p mv.length (mv.length - k) = sumFrom (cst L op sp) p mv.length mv.length
  | 0, _ => by rw [Nat.sub_zero]; show 0 + _ = _; omega
  | k + 1, hk => by
    have ih := cTo_sum h ho hs hl k (by omega)
    obtain ⟨x, hx⟩ := some_of_lt (L := mv) (k := k) (by omega)
    obtain ⟨y, hy⟩ := some_of_lt (L := op) (k := k) (by omega)
    have hp := h.at_ k x hx
    obtain ⟨x, rfl, hxl⟩ := hs k x hx
    obtain ⟨y, rfl, hyl⟩ := ho k y hy
    obtain ⟨s, e1⟩ := some_of_lt hxl
    obtain ⟨u, e2⟩ := some_of_lt hyl
    have e3 := cTo_succ hx hy e1 e2
    have e4 : cst L op sp k (p k) = sq s u := cst_at hy hp e1 e2
    rw [show mv.length - k = (mv.length - (k + 1)) + 1 by omega, sumFrom, show mv.length - (mv.length - (k + 1) + 1) = k by omega, e4] at ih
    rw [e3]
    omega
/-- No cover has a less sum than the least one; and there is a least one where there is a cover. -/
theorem cov_least {L : List Sp} {a n mv : List Int} (h1 : abOk L a n = true) (h2 : covOk L.length a n mv = true) : lcA L a n = true ∧ lcN L a n ≤ csV L a n mv := by
  obtain ⟨h3, h4⟩ := covOk_iff.1 h2
  have hle := cov_le h3
  have hA : lcA L a n = true := by rw [lcA, decide_eq_true_eq]; omega
  refine ⟨hA, ?_⟩
  obtain ⟨p, hp⟩ := cov_picks h3
  have hb := bst_sum hp (cst L (opens a n) (spares L.length a n)) mv.length (Nat.le_refl _)
  have hc := cTo_sum (L := L) (op := opens a n) hp (fun k x hx => op_nat h1 hx) (fun k x hx => mv_nat h2 hx) h4 mv.length (Nat.le_refl _)
  rw [Nat.sub_self] at hb hc
  have e0 : sumFrom (cst L (opens a n) (spares L.length a n)) p mv.length 0 = 0 := rfl
  have e1 : csV L a n mv = cTo L mv (opens a n) mv.length := by rw [csV, if_pos (csOk_iff.2 ⟨h1, h2⟩), h4]
  have e2 : lcN L a n = bst (cst L (opens a n) (spares L.length a n)) (spares L.length a n).length mv.length mv.length (taken p 0) := by
    rw [lcN, hA, if_pos rfl, lcSum, h4]; rfl
  rw [e1, e2]
  omega

/-- What the program's row picks. -/
theorem lcB_spec {c : Nat → Nat → Int} {n m i t : Nat} : ∀ j, lcB c n m i t j = -1 ∨ ∃ k : Nat, k < j ∧ lcB c n m i t j = (k : Int) ∧ t.testBit k = false ∧ c i k + bst c n m (m - (i + 1)) (t ||| 2 ^ k) = bst c n m (m - i) t
  | 0 => .inl rfl
  | j + 1 => by
    rw [lcB]
    split
    · rename_i h
      exact .inr ⟨j, by omega, rfl, h.2.1, h.2.2⟩
    · rcases lcB_spec (c := c) (n := n) (m := m) (i := i) (t := t) j with h | ⟨k, h1, h2, h3, h4⟩
      · exact .inl h
      · exact .inr ⟨k, by omega, h2, h3, h4⟩
theorem lc_at {c : Nat → Nat → Int} {n m : Nat} (hmn : m ≤ n) (hn : n ≤ 12) (hc : ∀ i k, i < m → k < n → 0 ≤ c i k ∧ c i k ≤ 2100000) {i : Nat} (hi : i < m) :
    ∃ k : Nat, k < n ∧ lcB c n m i (lcS c n m i).1 n = (k : Int) ∧ (lcS c n m i).1.testBit k = false ∧ c i k + bst c n m (m - (i + 1)) ((lcS c n m i).1 ||| 2 ^ k) = bst c n m (m - i) (lcS c n m i).1 ∧ lcS c n m (i + 1) = ((lcS c n m i).1 ||| 2 ^ k, (lcS c n m i).2 ++ [(k : Int)]) := by
  have hy := lcB_yes hmn hn hc hi
  rcases lcB_spec (c := c) (n := n) (m := m) (i := i) (t := (lcS c n m i).1) n with h | ⟨k, h1, h2, h3, h4⟩
  · rw [h] at hy; exact absurd (by omega) hy
  · exact ⟨k, h1, h2, h3, h4, by rw [lcS, h2]; rfl⟩
end Go.Proofs.Ythppancpecjegaa
