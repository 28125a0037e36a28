/-
  Plain mathematics for the laws of sound: the first least time, those that are heard within a time.
-/
import Derived.Test.YtdipmjflgjlfeaaPlain2
import Derived.Test.YtdipmjflgjlfeaaSnde
namespace Go.Proofs.Ytdipmjflgjlfeaa
open Go.RowKit

theorem argmin_le (T : List Int) : ∀ k, k ≤ T.length → ∀ i, i < k → T.getD (argmin T k) 0 ≤ T.getD i 0
  | 0, _, i, hi => by omega
  | k + 1, hk, i, hi => by
    have ih := argmin_le T k (by omega)
    rw [argmin]
    split
    · rename_i h
      by_cases e : i = k
      · subst e; exact Int.le_refl _
      · have := ih i (by omega); omega
    · rename_i h
      by_cases e : i = k
      · subst e; omega
      · exact ih i (by omega)
theorem getD_of {T : List Int} {i : Nat} {t : Int} (h : T[i]? = some t) : T.getD i 0 = t := by simp [List.getD, h]
theorem argmin_low {T : List Int} (h : 0 < T.length) : T[argmin T T.length]? = some (lowOf T) := by
  have hl := argmin_lt T T.length h (Nat.le_refl _)
  obtain ⟨t, ht⟩ := some_of_lt hl
  have h1 := argmin_le T T.length (Nat.le_refl _)
  rw [getD_of ht] at h1
  have h2 : ∀ x ∈ T, t ≤ x := by
    intro x hx
    obtain ⟨i, hi⟩ := List.getElem?_of_mem hx
    have := h1 i (List.getElem?_eq_some_iff.1 hi).1
    rwa [getD_of hi] at this
  have h3 : lowOf T ≤ t := foldl_min_mem T _ t (List.mem_of_getElem? ht)
  have h4 : t ≤ lowOf T := foldl_min_ge T t _ (h2 _ (head_mem h)) h2
  rw [ht, show t = lowOf T by omega]
theorem high_mem {T : List Int} (h : 0 < T.length) : highOf T ∈ T := by
  have key : ∀ (M : List Int) (z : Int), M.foldl max z = z ∨ M.foldl max z ∈ M := by
    intro M
    induction M with
    | nil => intro z; exact .inl rfl
    | cons x M ih =>
      intro z
      rw [List.foldl_cons]
      rcases ih (max z x) with h1 | h1
      · rw [h1]
        by_cases h2 : z ≤ x
        · exact .inr (by rw [show max z x = x by omega]; simp)
        · exact .inl (by omega)
      · exact .inr (List.mem_cons_of_mem _ h1)
  rcases key T (T.headD 0) with h1 | h1
  · unfold highOf; rw [h1]; exact head_mem h
  · exact h1
theorem upto_le {T : List Int} {m : Int} : ∀ k, k ≤ T.length → (upto T m k).length ≤ k
  | 0, _ => by rw [upto, pick_zero]; simp
  | k + 1, hk => by
    obtain ⟨t, ht⟩ := some_of_lt (L := T) (k := k) (by omega)
    have := upto_le (T := T) (m := m) k (by omega)
    rw [upto_succ ht]
    split
    · simp; omega
    · omega
theorem upto_all {T : List Int} {m : Int} (h : ∀ t ∈ T, t ≤ m) : ∀ k, k ≤ T.length → (upto T m k).length = k
  | 0, _ => by rw [upto, pick_zero]; simp
  | k + 1, hk => by
    obtain ⟨t, ht⟩ := some_of_lt (L := T) (k := k) (by omega)
    have := upto_all h k (by omega)
    rw [upto_succ ht, if_pos (h t (List.mem_of_getElem? ht))]
    simp; omega
theorem upto_less {T : List Int} {m : Int} {i : Nat} {u : Int} (hi : T[i]? = some u) (hu : m < u) : ∀ k, k ≤ T.length → i < k → (upto T m k).length < k
  | 0, _, h => by omega
  | k + 1, hk, h => by
    obtain ⟨t, ht⟩ := some_of_lt (L := T) (k := k) (by omega)
    rw [upto_succ ht]
    by_cases e : i = k
    · subst e
      rw [hi] at ht
      cases ht
      rw [if_neg (by omega)]
      have := upto_le (T := T) (m := m) i (by omega)
      omega
    · have := upto_less hi hu k (by omega) (by omega)
      split
      · simp; omega
      · omega
theorem upto_mono {T : List Int} {m : Int} {k : Nat} : ∀ n, k + n ≤ T.length → (upto T m k).length ≤ (upto T m (k + n)).length
  | 0, _ => Nat.le_refl _
  | n + 1, h => by
    obtain ⟨t, ht⟩ := some_of_lt (L := T) (k := k + n) (by omega)
    have := upto_mono (T := T) (m := m) (k := k) n (by omega)
    rw [show k + (n + 1) = k + n + 1 from rfl, upto_succ ht]
    split
    · simp; omega
    · omega
theorem upto_some {T : List Int} {m : Int} {i : Nat} {u : Int} (hi : T[i]? = some u) (hu : u ≤ m) : 0 < (upto T m T.length).length := by
  have hl := (List.getElem?_eq_some_iff.1 hi).1
  have h1 := upto_mono (T := T) (m := m) (k := i + 1) (T.length - (i + 1)) (by omega)
  rw [show i + 1 + (T.length - (i + 1)) = T.length by omega, upto_succ hi, if_pos hu] at h1
  simp at h1
  omega
/-- What the law of sound asks of the spread and of those heard within it. -/
theorem within_facts {L : List Sp} {a : Sp} (h : (srcOk L && isSp a) = true) : ∃ (j : Nat) (s : Sp) (tv sp : Int), L[j]? = some s ∧ argmin (times L a) L.length = j ∧ j < L.length ∧ (isSp s && isSp a) = true ∧ sndV s a = tv ∧ spr L a = sp ∧ 0 ≤ tv ∧ 0 ≤ sp ∧ tv + sp ≤ 302 ∧
    (upto (times L a) (tv + sp) L.length).length = L.length ∧ (0 < sp → 0 < (upto (times L a) (tv + sp - 1) L.length).length ∧ (upto (times L a) (tv + sp - 1) L.length).length < L.length) := by
  obtain ⟨h1, ha⟩ : srcOk L = true ∧ isSp a = true := by simpa using h
  obtain ⟨g1, g2, g3⟩ := srcOk_iff.1 h1
  have hT : 0 < (times L a).length := by rw [times_len]; exact g3
  have hlow := argmin_low hT
  rw [times_len] at hlow
  have hj : argmin (times L a) L.length < L.length := by
    have := (List.getElem?_eq_some_iff.1 hlow).1
    rwa [times_len] at this
  obtain ⟨s, hs⟩ := some_of_lt hj
  have hts := times_at (a := a) hs
  rw [hlow] at hts
  have hsg := all_at g1 hs
  have htv : sndV s a = lowOf (times L a) := by
    rw [sndV, if_pos (by simp [hsg, ha])]
    rw [Option.some.inj hts, tm_comm]
    rfl
  have hb : ∀ x ∈ times L a, 0 ≤ x ∧ x ≤ 302 := fun x hx => by
    obtain ⟨i, hi⟩ := List.getElem?_of_mem hx
    exact times_bd g1 ha hi
  have hlo := low_bd hT hb
  have hhi := high_bd hT hb
  have hlh := low_le_high hT
  have hsp : spr L a = highOf (times L a) - lowOf (times L a) := rfl
  have hsum : lowOf (times L a) + (highOf (times L a) - lowOf (times L a)) = highOf (times L a) := by omega
  refine ⟨_, s, lowOf (times L a), _, hs, rfl, hj, by simp [hsg, ha], htv, hsp, hlo.1, by omega, by omega, ?_, fun h0 => ⟨?_, ?_⟩⟩
  · rw [hsum]
    have := upto_all (T := times L a) (m := highOf (times L a)) (fun t ht => foldl_max_mem _ _ t ht) L.length (by rw [times_len]; omega)
    exact this
  · have := upto_some (m := lowOf (times L a) + (highOf (times L a) - lowOf (times L a)) - 1) hlow (by omega)
    rwa [times_len] at this
  · obtain ⟨i, hi⟩ := List.getElem?_of_mem (high_mem hT)
    have hil : i < L.length := by
      have := (List.getElem?_eq_some_iff.1 hi).1
      rwa [times_len] at this
    exact upto_less hi (by omega) L.length (by rw [times_len]; omega) hil
end Go.Proofs.Ytdipmjflgjlfeaa
