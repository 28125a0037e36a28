/-
  Plain mathematics for the law of listening: the best place, those played evenly, the worst pair.
-/
import Derived.Test.YtdipmjflgjlfeaaFsp
import Derived.Test.YtdipmjflgjlfeaaSndd
import Derived.Test.YtdipmjflgjlfeaaEven
import Derived.Test.YtdipmjflgjlfeaaWp
namespace Go.Proofs.Ytdipmjflgjlfeaa
open Go.RowKit

theorem argmin_first (T : List Int) : ∀ k, k ≤ T.length → ∀ i, i < argmin T k → T.getD (argmin T k) 0 < T.getD i 0
  | 0, _, i, hi => by
    rw [argmin] at hi
    omega
  | k + 1, hk, i, hi => by
    rw [argmin] at hi ⊢
    split
    · rename_i h
      rw [if_pos h] at hi
      have := argmin_le T k (by omega) i hi
      omega
    · rename_i h
      rw [if_neg h] at hi
      exact argmin_first T k (by omega) i hi
/-- The first least of a list. -/
theorem argmin_facts {T : List Int} (h : 0 < T.length) : ∃ (j : Nat) (t : Int), argmin T T.length = j ∧ j < T.length ∧ T[j]? = some t ∧ ∀ (i : Nat) (u : Int), T[i]? = some u → t ≤ u ∧ (u = t → j ≤ i) := by
  have hl := argmin_lt T T.length h (Nat.le_refl _)
  obtain ⟨t, ht⟩ := some_of_lt hl
  refine ⟨_, t, rfl, hl, ht, fun i u hu => ?_⟩
  have hi := (List.getElem?_eq_some_iff.1 hu).1
  have h1 := argmin_le T T.length (Nat.le_refl _) i hi
  rw [getD_of ht, getD_of hu] at h1
  refine ⟨h1, fun e => ?_⟩
  rcases Nat.lt_or_ge i (argmin T T.length) with h2 | h2
  · have := argmin_first T T.length (Nat.le_refl _) i h2
    rw [getD_of ht, getD_of hu] at this
    omega
  · exact h2
theorem spr_bd {L : List Sp} {p : Sp} (h : (srcOk L && isSp p) = true) : 0 ≤ spr L p ∧ spr L p ≤ 302 := by
  obtain ⟨j, s, tv, sp, _, _, _, _, _, hsp, t0, s0, hs, _⟩ := within_facts h
  rw [hsp]
  omega
theorem best_facts {L M : List Sp} (h : (srcOk L && srcOk M) = true) : ∃ (j : Nat) (p : Sp), M[j]? = some p ∧ blV L M = (j : Int) ∧ j < M.length ∧ (srcOk L && isSp p) = true ∧
    ∀ (i : Nat) (q : Sp), M[i]? = some q → (srcOk L && isSp q) = true ∧ spr L p ≤ spr L q ∧ (spr L q = spr L p → j ≤ i) := by
  obtain ⟨h1, h2⟩ : srcOk L = true ∧ srcOk M = true := by simpa using h
  obtain ⟨g1, g2, g3⟩ := srcOk_iff.1 h2
  obtain ⟨j, t, e1, e2, e3, e4⟩ := argmin_facts (T := sprs L M) (by rw [sprs_len]; exact g3)
  rw [sprs_len] at e1 e2
  obtain ⟨p, hp⟩ := some_of_lt e2
  rw [sprs_at hp] at e3
  cases e3
  refine ⟨j, p, hp, by rw [blV, if_pos h, e1], e2, by simp [h1, all_at g1 hp], fun i q hq => ⟨by simp [h1, all_at g1 hq], ?_⟩⟩
  exact e4 i _ (sprs_at hq)
theorem upto_mem {T : List Int} {m : Int} {j : Nat} {u : Int} (hj : T[j]? = some u) : ∀ k, k ≤ T.length → j < k → (((j : Int) ∈ upto T m k) ↔ u ≤ m)
  | 0, _, h => by omega
  | k + 1, hk, h => by
    obtain ⟨t, ht⟩ := some_of_lt (L := T) (k := k) (by omega)
    rw [upto_succ ht]
    have key : ∀ n, n ≤ T.length → ∀ x ∈ upto T m n, x < (n : Int) := by
      intro n
      induction n with
      | zero => intro _ x hx; rw [upto, pick_zero] at hx; cases hx
      | succ n ih =>
        intro hn x hx
        obtain ⟨t2, ht2⟩ := some_of_lt (L := T) (k := n) (by omega)
        rw [upto_succ ht2] at hx
        split at hx
        · rcases List.mem_append.1 hx with hx | hx
          · have := ih (by omega) x hx; omega
          · simp at hx; omega
        · have := ih (by omega) x hx; omega
    by_cases e : j = k
    · subst e
      rw [hj] at ht
      cases ht
      split
      · rename_i h3; simp [h3]
      · rename_i h3
        constructor
        · intro hx; have := key j (by omega) _ hx; omega
        · intro h4; exact absurd h4 h3
    · have ih := upto_mem (m := m) hj k (by omega) (by omega)
      split
      · rw [List.mem_append, ih]
        simp
        omega
      · exact ih
theorem even_facts {L : List Sp} {a : Sp} {m : Int} (h : ((srcOk L && isSp a) && inR m 0 1000) = true) : ∃ (j : Nat) (V : List Int), argmin (times L a) L.length = j ∧ ecV L a m = V ∧ ((j : Int) ∈ V) ∧ togV L a m = decide (V.length = L.length) ∧ V.length ≤ 41 := by
  have h1 : (srcOk L && isSp a) = true := by
    cases h2 : (srcOk L && isSp a)
    · rw [h2] at h; simp at h
    · rfl
  have h3 : inR m 0 1000 = true := by rw [h1] at h; simpa using h
  have hm : 0 ≤ m := by simp [inR] at h3; omega
  obtain ⟨hs, ha⟩ : srcOk L = true ∧ isSp a = true := by simpa using h1
  obtain ⟨g1, g2, g3⟩ := srcOk_iff.1 hs
  have hT : 0 < (times L a).length := by rw [times_len]; exact g3
  have hlow := argmin_low hT
  have hall : ∀ x ∈ times L a, x ≤ highOf (times L a) := fun x hx => foldl_max_mem _ _ x hx
  have hsp : spr L a = highOf (times L a) - lowOf (times L a) := rfl
  rw [times_len] at hlow
  have hjl : argmin (times L a) L.length < L.length := by
    have := (List.getElem?_eq_some_iff.1 hlow).1
    rwa [times_len] at this
  refine ⟨_, upto (times L a) (lowOf (times L a) + m) L.length, rfl, by rw [ecV, if_pos h], ?_, ?_, ?_⟩
  · exact (upto_mem hlow L.length (by rw [times_len]; omega) hjl).2 (by omega)
  · rw [togV, h, Bool.true_and]
    by_cases hle : spr L a ≤ m
    · have := upto_all (T := times L a) (m := lowOf (times L a) + m) (fun t ht => by have := hall t ht; omega) L.length (by rw [times_len]; omega)
      simp [hle, this]
    · obtain ⟨i, hi⟩ := List.getElem?_of_mem (high_mem hT)
      have hil : i < L.length := by
        have := (List.getElem?_eq_some_iff.1 hi).1
        rwa [times_len] at this
      have := upto_less (m := lowOf (times L a) + m) hi (by omega) L.length (by rw [times_len]; omega) hil
      have h5 : ¬ (upto (times L a) (lowOf (times L a) + m) L.length).length = L.length := by omega
      simp [hle, h5]
  · have := upto_le (T := times L a) (m := lowOf (times L a) + m) L.length (by rw [times_len]; omega)
    omega
theorem wqK_ge {L : List Sp} {i : Nat} {p : Nat × Nat} : ∀ j, sqAt L p.1 p.2 ≤ sqAt L (wqK L i p j).1 (wqK L i p j).2 ∧ ∀ n, n < j → sqAt L i (i + 1 + n) ≤ sqAt L (wqK L i p j).1 (wqK L i p j).2
  | 0 => ⟨Int.le_refl _, fun n h => by omega⟩
  | j + 1 => by
    obtain ⟨h1, h2⟩ := wqK_ge (L := L) (i := i) (p := p) j
    simp only [wqK]
    split
    · rename_i h
      refine ⟨?_, fun n hn => ?_⟩
      · show _ ≤ sqAt L i (i + 1 + j); omega
      · show _ ≤ sqAt L i (i + 1 + j)
        by_cases e : n = j
        · subst e; exact Int.le_refl _
        · have := h2 n (by omega); omega
    · rename_i h
      refine ⟨h1, fun n hn => ?_⟩
      by_cases e : n = j
      · subst e; omega
      · exact h2 n (by omega)
theorem wqI_ge {L : List Sp} : ∀ i, ∀ x y, x < i → x < y → y < L.length → sqAt L x y ≤ sqAt L (wqI L i).1 (wqI L i).2
  | 0, x, y, h, _, _ => by omega
  | i + 1, x, y, h, hxy, hy => by
    rw [wqI]
    obtain ⟨h1, h2⟩ := wqK_ge (L := L) (i := i) (p := wqI L i) (L.length - (i + 1))
    by_cases e : x = i
    · subst e
      have := h2 (y - (x + 1)) (by omega)
      rwa [show x + 1 + (y - (x + 1)) = y by omega] at this
    · have := wqI_ge i x y (by omega) hxy hy
      omega
theorem wqI_lt {L : List Sp} (h : 2 ≤ L.length) : ∀ i, i ≤ L.length → (wqI L i).1 < L.length ∧ (wqI L i).2 < L.length
  | 0, _ => ⟨by show 0 < _; omega, by show 1 < _; omega⟩
  | i + 1, hi => by
    rw [wqI]
    exact wqK_lt (wqI_lt h i (by omega)) _ (by omega)
theorem pair_facts {L : List Sp} (h : wpOk L = true) : ∃ (i k : Nat) (a b : Sp), L[i]? = some a ∧ L[k]? = some b ∧ wp1 L = (i : Int) ∧ wp2 L = (k : Int) ∧ i < L.length ∧ k < L.length ∧ (isSp a && isSp b) = true ∧
    ∀ (x y : Nat) (p q : Sp), y < x → L[x]? = some p → L[y]? = some q → (isSp p && isSp q) = true ∧ sq p q ≤ sq a b := by
  obtain ⟨h1, h2⟩ := wpOk_iff.1 h
  obtain ⟨g1, g2, g3⟩ := srcOk_iff.1 h1
  obtain ⟨n, hn⟩ : ∃ n, L.length = n + 1 := ⟨L.length - 1, by omega⟩
  have e1 := wp_I (L := L) (sqAt_nonneg g1 (by omega) (by omega)).1 h2 n
  rw [← hn] at e1
  obtain ⟨l1, l2⟩ := wqI_lt h2 L.length (Nat.le_refl _)
  obtain ⟨a, ha⟩ := some_of_lt l1
  obtain ⟨b, hb⟩ := some_of_lt l2
  refine ⟨_, _, a, b, ha, hb, by rw [wp1, if_pos h, e1], by rw [wp2, if_pos h, e1], l1, l2, by simp [all_at g1 ha, all_at g1 hb], fun x y p q hyx hx hy => ⟨by simp [all_at g1 hx, all_at g1 hy], ?_⟩⟩
  have hxl := (List.getElem?_eq_some_iff.1 hx).1
  have := wqI_ge (L := L) L.length y x (by omega) hyx hxl
  rw [sqAt_eq hy hx, sqAt_eq ha hb] at this
  rw [sq_comm p q]
  exact this
end Go.Proofs.Ytdipmjflgjlfeaa
