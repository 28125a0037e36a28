/-
  Facts for the law of covers: behind the changes all stand apart, and every needed spot is stood on.
-/
import Derived.Test.YthppancpecjegaaFct
namespace Go.Proofs.Ythppancpecjegaa
open Go.RowKit

theorem chTo_new {L : List Sp} {s : Sp} : ∀ {n k : Nat}, chTo L n = true → k < n → L[k]? = some s → has (L.take k) s = false
  | n + 1, k, h, hk, hx => by
    rw [chTo, Bool.and_eq_true, Bool.and_eq_true] at h
    by_cases e : k = n
    · subst e
      have e1 : L.getD k ⟨0, 0⟩ = s := by simp [List.getD, hx]
      rw [e1] at h
      simpa using h.2.2
    · exact chTo_new h.1 (by omega) hx
theorem ch_inj {L : List Sp} (h : chOk L = true) {i j : Nat} {s : Sp} (hi : L[i]? = some s) (hj : L[j]? = some s) : i = j := by
  have hc := (chOk_iff.1 h).2
  have key : ∀ i j : Nat, i < j → L[i]? = some s → L[j]? = some s → False := fun i j hij hi hj => by
    have h1 := chTo_new hc (List.getElem?_eq_some_iff.1 hj).1 hj
    rw [has_take hi hij] at h1
    cases h1
  rcases Nat.lt_trichotomy i j with e | e | e
  · exact (key i j e hi hj).elim
  · exact e
  · exact (key j i e hj hi).elim
theorem chTo_app {M : List Sp} {s : Sp} : ∀ k, k ≤ M.length → chTo (M ++ [s]) k = chTo M k
  | 0, _ => rfl
  | k + 1, hk => by
    have e : (M ++ [s]).getD k ⟨0, 0⟩ = M.getD k ⟨0, 0⟩ := by simp [List.getD, List.getElem?_append_left (show k < M.length by omega)]
    have e2 : (M ++ [s]).take k = M.take k := List.take_append_of_le_length (by omega)
    rw [chTo, chTo, chTo_app k (by omega), e, e2]
/-- Performer i stands on the chart's spot y behind the changes. -/
def PosR (op mv : List Int) (i y : Nat) : Prop := (∃ k : Nat, mv[k]? = some (i : Int) ∧ op[k]? = some (y : Int)) ∨ (has mv (i : Int) = false ∧ y = i)
theorem pos_at {L : List Sp} {a n mv : List Int} (h1 : abOk L a n = true) (h2 : covOk L.length a n mv = true) {i : Nat} (hi : i < L.length) : ∃ (y : Nat) (s : Sp), L[y]? = some s ∧ cvAt L (opens a n) mv mv.length i = s ∧ PosR (opens a n) mv i y := by
  cases hm : has mv (i : Int)
  · obtain ⟨s, hs⟩ := some_of_lt hi
    exact ⟨i, s, hs, cvAt_no hm hs, .inr ⟨hm, rfl⟩⟩
  · obtain ⟨k, e, hk, _⟩ := idx_some hm
    have hkl := (List.getElem?_eq_some_iff.1 hk).1
    obtain ⟨y, hy⟩ := some_of_lt (L := opens a n) (k := k) (by have := (covOk_iff.1 h2).2; omega)
    obtain ⟨y, rfl, hyl⟩ := op_nat h1 hy
    obtain ⟨s, hs⟩ := some_of_lt hyl
    exact ⟨y, s, hs, cvAt_yes e hm hy hs, .inl ⟨k, hk, hy⟩⟩
theorem mv_spare {a n mv : List Int} {m : Nat} (h2 : covOk m a n mv = true) {x : Int} (hx : x ∈ mv) : has a x = false ∧ has n x = false := by
  obtain ⟨k, hk⟩ := List.mem_iff_getElem?.1 hx
  obtain ⟨h3, _⟩ := covTo_at (covOk_iff.1 h2).1 (List.getElem?_eq_some_iff.1 hk).1 hk
  have h4 := has_iff.1 h3
  rw [spares, List.mem_filter] at h4
  have h5 := h4.2
  simp only [Bool.and_eq_true, Bool.not_eq_true'] at h5
  exact h5
theorem pos_inj {L : List Sp} {a n mv : List Int} (h1 : abOk L a n = true) (h2 : covOk L.length a n mv = true) {i j y : Nat} (ai : has a (i : Int) = false) (aj : has a (j : Int) = false) (hi : PosR (opens a n) mv i y) (hj : PosR (opens a n) mv j y) : i = j := by
  have hr := (abOk_iff.1 h1).2.2
  rcases hi with ⟨k, k1, k2⟩ | ⟨k1, k2⟩ <;> rcases hj with ⟨l, l1, l2⟩ | ⟨l1, l2⟩
  · have e := opens_inj hr k2 l2
    subst e
    rw [k1] at l1
    have := Option.some.inj l1
    omega
  · have := (opens_mem (List.mem_of_getElem? k2)).2
    rw [l2, aj] at this; cases this
  · have := (opens_mem (List.mem_of_getElem? l2)).2
    rw [k2, ai] at this; cases this
  · omega
theorem cv_all {L : List Sp} {a n mv : List Int} (h1 : abOk L a n = true) (h2 : covOk L.length a n mv = true) : ∀ m, m ≤ L.length →
    (∀ s ∈ cvTo L a (opens a n) mv m, ∃ i y : Nat, i < m ∧ has a (i : Int) = false ∧ L[y]? = some s ∧ PosR (opens a n) mv i y) ∧ chTo (cvTo L a (opens a n) mv m) (cvTo L a (opens a n) mv m).length = true
  | 0, _ => ⟨fun s hs => (by cases hs), rfl⟩
  | m + 1, hm => by
    obtain ⟨g1, g2⟩ := cv_all h1 h2 m (by omega)
    rw [cvTo]
    cases hA : has a (m : Int)
    · rw [if_neg (by simp)]
      obtain ⟨y, s, y1, y2, y3⟩ := pos_at h1 h2 (show m < L.length by omega)
      rw [y2]
      refine ⟨fun u hu => ?_, ?_⟩
      · rcases List.mem_append.1 hu with hu | hu
        · obtain ⟨i, z, z1, z2⟩ := g1 u hu
          exact ⟨i, z, by omega, z2⟩
        · simp at hu
          subst hu
          exact ⟨m, y, by omega, hA, y1, y3⟩
      · rw [List.length_append]
        refine chTo_yes (k := (cvTo L a (opens a n) mv m).length) (by rw [chTo_app _ (Nat.le_refl _)]; exact g2) (s := s) (by rw [List.getElem?_append_right (Nat.le_refl _)]; simp) (ch_at (abOk_iff.1 h1).1 y1) ?_
        rw [List.take_append_of_le_length (Nat.le_refl _), List.take_of_length_le (Nat.le_refl _)]
        refine has_no.2 (fun hmem => ?_)
        obtain ⟨i, z, z1, z2, z3, z4⟩ := g1 s hmem
        have e := ch_inj (abOk_iff.1 h1).1 y1 z3
        subst e
        have := pos_inj h1 h2 z2 hA z4 y3
        omega
    · rw [if_pos rfl]
      exact ⟨fun u hu => (by obtain ⟨i, z, z1, z2⟩ := g1 u hu; exact ⟨i, z, by omega, z2⟩), g2⟩
/-- Behind the changes it is a chart, if anyone is left. -/
theorem cdV_chart {L : List Sp} {a n mv : List Int} (h : csOk L a n mv = true) (h0 : 0 < (cdV L a n mv).length) : chOk (cdV L a n mv) = true := by
  obtain ⟨h1, h2⟩ := csOk_iff.1 h
  have e : cdV L a n mv = cvTo L a (opens a n) mv L.length := by rw [cdV, if_pos h]
  have hl := cdV_le L a n mv
  have := (ab_lens h1).1
  rw [e] at h0 hl ⊢
  exact chOk_iff.2 ⟨⟨by omega, by omega⟩, (cv_all h1 h2 L.length (Nat.le_refl _)).2⟩
theorem cv_mem {L : List Sp} {a n mv : List Int} (h1 : abOk L a n = true) (h2 : covOk L.length a n mv = true) {i y : Nat} {s : Sp} (ai : has a (i : Int) = false) (hp : PosR (opens a n) mv i y) (hs : L[y]? = some s) : ∀ m, i < m → m ≤ L.length → s ∈ cvTo L a (opens a n) mv m
  | m + 1, hi, hm => by
    rw [cvTo]
    by_cases e : i = m
    · subst e
      rw [ai, if_neg (by simp)]
      have e2 : cvAt L (opens a n) mv mv.length i = s := by
        rcases hp with ⟨k, k1, k2⟩ | ⟨k1, k2⟩
        · have hkl := (List.getElem?_eq_some_iff.1 k1).1
          have h3 := covTo_at (covOk_iff.1 h2).1 hkl k1
          exact cvAt_yes (idx_at h3.2 k1) (has_at k1) k2 hs
        · subst k2
          exact cvAt_no k1 hs
      rw [e2]
      simp
    · have ih := cv_mem h1 h2 ai hp hs m (by omega) (by omega)
      split
      · exact ih
      · exact List.mem_append.2 (.inl ih)
/-- Every needed spot is stood on. -/
theorem cdV_needed {L : List Sp} {a n mv : List Int} (h : csOk L a n mv = true) {y : Nat} {s : Sp} (hy : (y : Int) ∈ n) (hs : L[y]? = some s) : s ∈ cdV L a n mv := by
  obtain ⟨h1, h2⟩ := csOk_iff.1 h
  rw [cdV, if_pos h]
  have hyl := (List.getElem?_eq_some_iff.1 hs).1
  cases hA : has a (y : Int)
  · refine cv_mem h1 h2 hA (.inr ⟨?_, rfl⟩) hs L.length hyl (Nat.le_refl _)
    refine has_no.2 (fun hm => ?_)
    have := (mv_spare h2 hm).2
    rw [has_iff.2 hy] at this
    cases this
  · have ho : (y : Int) ∈ opens a n := by rw [opens, List.mem_filter]; exact ⟨hy, hA⟩
    obtain ⟨k, hk⟩ := List.mem_iff_getElem?.1 ho
    have hkl := (List.getElem?_eq_some_iff.1 hk).1
    obtain ⟨x, hx⟩ := some_of_lt (L := mv) (k := k) (by have := (covOk_iff.1 h2).2; omega)
    obtain ⟨x, rfl, hxl⟩ := mv_nat h2 hx
    exact cv_mem h1 h2 (mv_spare h2 (List.mem_of_getElem? hx)).1 (.inl ⟨k, hx, hk⟩) hs L.length hxl (Nat.le_refl _)
theorem has_opens (a n : List Int) (x : Int) : has (opens a n) x = (has a x && has n x) := by
  cases h1 : has a x <;> cases h2 : has n x
  · exact has_no.2 (fun h => by have := (opens_mem h).2; rw [h1] at this; cases this)
  · exact has_no.2 (fun h => by have := (opens_mem h).2; rw [h1] at this; cases this)
  · exact has_no.2 (fun h => by have := (opens_mem h).1; exact (has_no.1 h2) this)
  · exact has_iff.2 (by rw [opens, List.mem_filter]; exact ⟨has_iff.1 h2, h1⟩)
theorem has_spares {a n : List Int} {m k : Nat} (hk : k < m) : has (spares m a n) (k : Int) = (!has a (k : Int) && !has n (k : Int)) := by
  cases h1 : (!has a (k : Int) && !has n (k : Int))
  · refine has_no.2 (fun h => ?_)
    rw [spares, List.mem_filter] at h
    rw [h1] at h
    cases h.2
  · refine has_iff.2 ?_
    rw [spares, List.mem_filter]
    exact ⟨by simp [upTo]; exact ⟨k, hk, rfl⟩, h1⟩
theorem la_ok {L : List Sp} {a n : List Int} (h : abOk L a n = true) : lcA L a n = decide (laV L a n = 0) := by
  have e : laV L a n = max (((opens a n).length : Int) - (spares L.length a n).length) 0 := by rw [laV, if_pos h]
  rw [lcA, e]
  apply decide_eq_decide.2
  omega
end Go.Proofs.Ythppancpecjegaa
