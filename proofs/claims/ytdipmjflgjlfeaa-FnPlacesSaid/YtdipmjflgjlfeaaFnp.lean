/-
  Plain mathematics for the law of listeners.
-/
import Derived.Test.YtdipmjflgjlfeaaFsp
import Derived.Test.YtdipmjflgjlfeaaLib
import Derived.Test.YtdipmjflgjlfeaaCfo
import Derived.Test.YtdipmjflgjlfeaaOffb
namespace Go.Proofs.Ytdipmjflgjlfeaa
open Go.RowKit

theorem heard_facts {L : List Sp} {O : List Int} {a : Sp} (h : (entOk L O && isSp a) = true) : ∃ V : List Int, htV L O a = V ∧ heard L O a = V ∧ hsprV L O a = highOf V - lowOf V ∧ V.length = L.length ∧ O.length = L.length ∧ 0 < V.length ∧ V.length ≤ 40 ∧ (∀ x ∈ V, -10000 ≤ x ∧ x ≤ 10302) ∧
    ∀ (j : Nat) (s : Sp) (o : Int), L[j]? = some s → O[j]? = some o → V[j]? = some (o + sndV s a) ∧ (isSp s && isSp a) = true ∧ 0 ≤ sndV s a ∧ sndV s a ≤ 302 ∧ -2000 ≤ o ∧ o ≤ 2000 := by
  obtain ⟨h1, ha⟩ : entOk L O = true ∧ isSp a = true := by simpa using h
  obtain ⟨h2, h3, h4⟩ := entOk_iff.1 h1
  obtain ⟨g1, g2, g3⟩ := srcOk_iff.1 h2
  have hl := heard_len a h4
  refine ⟨_, by rw [htV, if_pos h], rfl, by rw [hsprV, if_pos h]; rfl, hl, h4.symm, by omega, by omega, heard_bd g1 (off_all h3) ha, fun j s o hs ho => ?_⟩
  have hsg := all_at g1 hs
  have hsv : sndV s a = tm a s := by rw [sndV, if_pos (by simp [hsg, ha]), tm_comm]; rfl
  have hb := tm_bd ha hsg
  have ho2 := inR_iff.1 (List.all_eq_true.1 (offOk_len h3).1 o (List.mem_of_getElem? ho))
  refine ⟨by rw [heard_at hs ho, hsv, Int.add_comm], by simp [hsg, ha], by omega, by omega, by omega, by omega⟩
theorem late_mem {T : List Int} {m : Int} {j : Nat} {u : Int} (hj : T[j]? = some u) : ∀ k, k ≤ T.length → j < k → (((j : Int) ∈ late T m k) ↔ m < u)
  | 0, _, h => by omega
  | k + 1, hk, h => by
    obtain ⟨t, ht⟩ := some_of_lt (L := T) (k := k) (by omega)
    rw [late_succ ht]
    have key : ∀ n, n ≤ T.length → ∀ x ∈ late T m n, x < (n : Int) := by
      intro n
      induction n with
      | zero => intro _ x hx; rw [late, pick_zero] at hx; cases hx
      | succ n ih =>
        intro hn x hx
        obtain ⟨t2, ht2⟩ := some_of_lt (L := T) (k := n) (by omega)
        rw [late_succ ht2] at hx
        split at hx
        · rcases List.mem_append.1 hx with hx | hx
          · have := ih (by omega) x hx; omega
          · simp at hx; omega
        · have := ih (by omega) x hx; omega
    by_cases e : j = k
    · subst e
      rw [hj] at ht
      cases ht
      split
      · rename_i h3; simp [h3]
      · rename_i h3
        constructor
        · intro hx; have := key j (by omega) _ hx; omega
        · intro h4; exact absurd h4 h3
    · have ih := late_mem (m := m) hj k (by omega) (by omega)
      split
      · rw [List.mem_append, ih]
        simp
        omega
      · exact ih
theorem late_facts {L : List Sp} {O : List Int} {a : Sp} {m : Int} (h : ((entOk L O && isSp a) && inR m 0 4000) = true) : (entOk L O && isSp a) = true ∧ 0 ≤ m ∧ m ≤ 4000 ∧ ∃ V T : List Int, htV L O a = V ∧ laV L O a m = T ∧ 0 < V.length ∧ V.length ≤ 40 ∧ T.length ≤ 40 ∧
    (∀ x ∈ V, -10000 ≤ x ∧ x ≤ 10302) ∧ ∀ (j : Nat) (u : Int), V[j]? = some u → (((j : Int) ∈ T) ↔ m < u - lowOf V) := by
  have h1 : (entOk L O && isSp a) = true := by
    cases h2 : (entOk L O && isSp a)
    · rw [h2] at h; simp at h
    · rfl
  have h3 : inR m 0 4000 = true := by rw [h1] at h; simpa using h
  have hm := inR_iff.1 h3
  obtain ⟨V, e1, e2, e3, e4, e5, e6, e7, e8, _⟩ := heard_facts h1
  refine ⟨h1, hm.1, hm.2, V, late V (lowOf V + m) L.length, e1, by rw [laV, if_pos h, e2], e6, e7, ?_, e8, fun j u hu => ?_⟩
  · have := late_len V (lowOf V + m) L.length; omega
  · have hj := (List.getElem?_eq_some_iff.1 hu).1
    rw [late_mem hu L.length (by omega) (by omega)]
    omega
theorem corr_facts {M : List Sp} {b : Sp} (h : cfOk M b = true) : ∃ C : List Int, cfV M b = C ∧ (entOk M C && isSp b) = true ∧ hsprV M C b = 0 ∧ (∀ x ∈ C, x ≤ 0) ∧ (0 : Int) ∈ C ∧ C.length ≤ 40 := by
  have h0 : (srcOk M && isSp b) = true := h
  obtain ⟨h1, hb⟩ : srcOk M = true ∧ isSp b = true := by simpa using h0
  obtain ⟨g1, g2, g3⟩ := srcOk_iff.1 h1
  have hT : 0 < (times M b).length := by rw [times_len]; exact g3
  have hbd := low_times g3 g1 hb
  have hall : ∀ x ∈ corr M b, -302 ≤ x ∧ x ≤ 0 := by
    intro x hx
    obtain ⟨t, ht, rfl⟩ := List.mem_map.1 hx
    have ha := times_all g1 hb t ht
    have hlo := foldl_min_mem (times M b) ((times M b).headD 0) t ht
    unfold lowOf at hbd ⊢
    omega
  have hoff : offOk (corr M b) = true := by
    rw [offOk, corr_len, Bool.and_eq_true]
    refine ⟨List.all_eq_true.2 (fun x hx => inR_iff.2 (by have := hall x hx; omega)), inR_iff.2 (by omega)⟩
  have hent : (entOk M (corr M b) && isSp b) = true := by
    rw [Bool.and_eq_true]
    exact ⟨entOk_iff.2 ⟨h1, hoff, (corr_len M b).symm⟩, hb⟩
  have hheard : ∀ x ∈ heard M (corr M b) b, x = lowOf (times M b) := by
    intro x hx
    obtain ⟨k, hk⟩ := List.getElem?_of_mem hx
    have hkl := (List.getElem?_eq_some_iff.1 hk).1
    rw [heard_len b (corr_len M b).symm] at hkl
    obtain ⟨s, hs⟩ := some_of_lt hkl
    rw [heard_at hs (corr_at (times_at hs))] at hk
    have := Option.some.inj hk
    omega
  refine ⟨corr M b, by rw [cfV, if_pos h0], hent, ?_, fun x hx => (hall x hx).2, ?_, by rw [corr_len]; exact g2⟩
  · obtain ⟨V, e1, e2, e3, e4, e5, e6, e7, _⟩ := heard_facts hent
    rw [e3]
    have hv : ∀ x ∈ V, lowOf (times M b) ≤ x ∧ x ≤ lowOf (times M b) := fun x hx => by have := hheard x (by rw [e2]; exact hx); omega
    have := low_bd e6 hv
    have := high_bd e6 hv
    omega
  · have hlow := argmin_low hT
    have := corr_at hlow
    rw [Int.sub_self] at this
    exact List.mem_of_getElem? this
theorem foldl_min_add (b : Int) : ∀ (T : List Int) (z : Int), (T.map (· + b)).foldl min (z + b) = T.foldl min z + b
  | [], _ => rfl
  | x :: T, z => by
    rw [List.map_cons, List.foldl_cons, List.foldl_cons, show min (z + b) (x + b) = min z x + b by omega, foldl_min_add b T]
theorem foldl_max_add (b : Int) : ∀ (T : List Int) (z : Int), (T.map (· + b)).foldl max (z + b) = T.foldl max z + b
  | [], _ => rfl
  | x :: T, z => by
    rw [List.map_cons, List.foldl_cons, List.foldl_cons, show max (z + b) (x + b) = max z x + b by omega, foldl_max_add b T]
theorem spread_add (b : Int) (T : List Int) : highOf (T.map (· + b)) - lowOf (T.map (· + b)) = highOf T - lowOf T := by
  cases T with
  | nil => rfl
  | cons x T =>
    have h1 := foldl_min_add b (x :: T) x
    have h2 := foldl_max_add b (x :: T) x
    unfold highOf lowOf
    simp only [List.map_cons, List.headD_cons] at *
    omega
theorem shift_facts {L : List Sp} {O : List Int} {a : Sp} {b : Int} (h : (entOk L O && isSp a) = true) (hs : shOk O b = true) : ∃ N : List Int, shV O b = N ∧ (entOk L N && isSp a) = true ∧ hsprV L N a = hsprV L O a ∧ N.length ≤ 40 := by
  obtain ⟨h1, ha⟩ : entOk L O = true ∧ isSp a = true := by simpa using h
  obtain ⟨h2, h3, h4⟩ := entOk_iff.1 h1
  obtain ⟨g1, g2, g3⟩ := srcOk_iff.1 h2
  have hoff : offOk (shiftd O b) = true := by
    rw [shOk, Bool.and_eq_true] at hs
    exact hs.2
  have hent : (entOk L (shiftd O b) && isSp a) = true := by
    rw [Bool.and_eq_true]
    exact ⟨entOk_iff.2 ⟨h2, hoff, by rw [shiftd_len]; exact h4⟩, ha⟩
  refine ⟨shiftd O b, by rw [shV, if_pos hs], hent, ?_, by rw [shiftd_len]; omega⟩
  have hh : heard L (shiftd O b) a = (heard L O a).map (· + b) := by
    apply List.ext_getElem?
    intro k
    by_cases hk : k < L.length
    · obtain ⟨s, hs⟩ := some_of_lt hk
      obtain ⟨o, ho⟩ := some_of_lt (L := O) (k := k) (by omega)
      have ho' : (shiftd O b)[k]? = some (o + b) := by simp [shiftd, ho]
      rw [heard_at hs ho', List.getElem?_map, heard_at hs ho]
      simp [Int.add_assoc]
    · rw [List.getElem?_eq_none (by rw [heard_len a (by rw [shiftd_len]; exact h4)]; omega), List.getElem?_eq_none (by rw [List.length_map, heard_len a h4]; omega)]
  rw [hsprV, if_pos hent, hsprV, if_pos h]
  show highOf (heard L (shiftd O b) a) - lowOf (heard L (shiftd O b) a) = highOf (heard L O a) - lowOf (heard L O a)
  rw [hh, spread_add]
end Go.Proofs.Ytdipmjflgjlfeaa
