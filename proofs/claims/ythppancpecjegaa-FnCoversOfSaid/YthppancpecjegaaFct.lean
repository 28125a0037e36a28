/-
  Facts for the law of covers: counts, and where the performers stand behind the changes.
-/
import Derived.Test.YthppancpecjegaaFcs
import Derived.Test.YthppancpecjegaaCov
namespace Go.Proofs.Ythppancpecjegaa
open Go.RowKit

theorem rise_next {l : List Int} {hi x y : Int} : ∀ {n k : Nat}, riseTo l hi n = true → k + 1 < n → l[k]? = some x → l[k + 1]? = some y → x < y
  | n + 1, k, h, hk, hx, hy => by
    rw [riseTo, Bool.and_eq_true, Bool.and_eq_true] at h
    by_cases e : k + 1 = n
    · subst e
      have e1 : l.getD (k + 1) 0 = y := by simp [List.getD, hy]
      have e2 : l.getD k 0 = x := by simp [List.getD, hx]
      have h3 := h.2.2
      rw [e1, Nat.add_sub_cancel, e2] at h3
      simpa using h3
    · exact rise_next h.1 (by omega) hx hy
theorem rise_lt {l : List Int} {hi : Int} (h : riseOk l hi = true) : ∀ (d i : Nat) {x y : Int}, l[i]? = some x → l[i + d + 1]? = some y → x < y
  | 0, i, x, y, hx, hy => rise_next (n := l.length) h (List.getElem?_eq_some_iff.1 hy).1 hx hy
  | d + 1, i, x, y, hx, hy => by
    have hl := (List.getElem?_eq_some_iff.1 hy).1
    obtain ⟨z, hz⟩ := some_of_lt (L := l) (k := i + d + 1) (by omega)
    have h1 := rise_lt h d i hx hz
    have h2 := rise_next (n := l.length) h (k := i + d + 1) (by omega) hz hy
    omega
theorem rise_pw {l : List Int} {hi : Int} (h : riseOk l hi = true) : l.Pairwise (· < ·) := by
  rw [List.pairwise_iff_getElem]
  intro i j h1 h2 hij
  refine rise_lt h (j - i - 1) i (List.getElem?_eq_getElem h1) ?_
  rw [show i + (j - i - 1) + 1 = j by omega]
  exact List.getElem?_eq_getElem h2
theorem pw_inj {l : List Int} (h : l.Pairwise (· < ·)) {i j : Nat} {x : Int} (hi : l[i]? = some x) (hj : l[j]? = some x) : i = j := by
  rw [List.pairwise_iff_getElem] at h
  obtain ⟨a1, a2⟩ := List.getElem?_eq_some_iff.1 hi
  obtain ⟨b1, b2⟩ := List.getElem?_eq_some_iff.1 hj
  rcases Nat.lt_trichotomy i j with e | e | e
  · have := h i j a1 b1 e; omega
  · exact e
  · have := h j i b1 a1 e; omega
theorem opens_inj {a n : List Int} {hi : Int} (h : riseOk n hi = true) {i j : Nat} {x : Int} (h1 : (opens a n)[i]? = some x) (h2 : (opens a n)[j]? = some x) : i = j :=
  pw_inj ((rise_pw h).filter _) h1 h2
/-- One more is counted where the number is there. -/
theorem cnt_next : ∀ {l : List Int} (m : Int), l.Pairwise (· < ·) → (l.filter fun x => decide (x < m + 1)).length = (l.filter fun x => decide (x < m)).length + if has l m then 1 else 0
  | [], m, _ => by simp [has]
  | x :: l, m, h => by
    rw [List.pairwise_cons] at h
    have ih := cnt_next m h.2
    rw [List.filter_cons, List.filter_cons, has_cons]
    rcases Int.lt_trichotomy x m with e | e | e
    · have e1 : decide (x < m + 1) = true := by simp; omega
      have e2 : decide (x < m) = true := by simpa using e
      have e3 : (m == x) = false := beq_eq_false_iff_ne.2 (by omega)
      rw [e1, e2, e3, if_pos rfl, if_pos rfl, Bool.false_or]
      simp only [List.length_cons]
      omega
    · subst e
      have e1 : decide (x < x + 1) = true := by simp; omega
      have e2 : decide (x < x) = false := by simp
      have e3 : (x == x) = true := by simp
      have e4 : (l.filter fun y => decide (y < x + 1)) = [] := by
        rw [List.filter_eq_nil_iff]; intro y hy; have := h.1 y hy; simp; omega
      have e5 : (l.filter fun y => decide (y < x)) = [] := by
        rw [List.filter_eq_nil_iff]; intro y hy; have := h.1 y hy; simp; omega
      rw [e1, e2, e3, if_pos rfl, e4, e5]
      simp
    · have e1 : decide (x < m + 1) = false := by simp; omega
      have e2 : decide (x < m) = false := by simp; omega
      have e3 : (m == x) = false := beq_eq_false_iff_ne.2 (by omega)
      rw [e1, e2, e3, Bool.false_or]
      exact ih
theorem cnt_has_ {a : List Int} (h : a.Pairwise (· < ·)) (h0 : ∀ x ∈ a, 0 ≤ x) : ∀ m : Nat, ((upTo m).filter (has a)).length = (a.filter fun x => decide (x < (m : Int))).length
  | 0 => by
    have e : (a.filter fun x => decide (x < ((0 : Nat) : Int))) = [] := by
      rw [List.filter_eq_nil_iff]; intro y hy; have := h0 y hy; simp; omega
    rw [e]; rfl
  | m + 1 => by
    have ih := cnt_has_ h h0 m
    have e := cnt_next (m : Int) h
    rw [upTo_succ, List.filter_append, List.length_append, ih]
    rw [show (((m + 1 : Nat)) : Int) = (m : Int) + 1 by omega, e]
    congr 1
    cases hh : has a (m : Int) <;> simp [hh]
/-- So many stand behind the changes. -/
theorem cvTo_count (L : List Sp) (a op mv : List Int) : ∀ k, (cvTo L a op mv k).length + ((upTo k).filter (has a)).length = k
  | 0 => rfl
  | k + 1 => by
    have ih := cvTo_count L a op mv k
    rw [cvTo, upTo_succ, List.filter_append, List.length_append]
    cases h : has a (k : Int)
    · simp [h]; omega
    · simp [h]; omega
theorem cdV_len {L : List Sp} {a n mv : List Int} (h : csOk L a n mv = true) : (cdV L a n mv).length + a.length = L.length := by
  obtain ⟨h1, _⟩ := csOk_iff.1 h
  obtain ⟨h2, h3, _⟩ := abOk_iff.1 h1
  have hb := fun x hx => rise_mem (x := x) h3 hx
  have e := cnt_has_ (rise_pw h3) (fun x hx => (hb x hx).1) L.length
  have e2 : (a.filter fun x => decide (x < (L.length : Int))) = a := by
    rw [List.filter_eq_self]; intro x hx; have := hb x hx; simp; omega
  rw [e2] at e
  have := cvTo_count L a (opens a n) mv L.length
  rw [cdV, if_pos h]
  omega
end Go.Proofs.Ythppancpecjegaa
