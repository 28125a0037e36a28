/-
  Contracts: whether a list holds a number or a spot, and where; increasing lists; charts.
-/
import Derived.Test.YtdmgffcabjpihaaGreatDoorAbp
import Derived.Test.YtdmgffcabjpihaaGreatDoorLst
import Derived.Deep.QuietTactic
import Derived.BigQuiet
import Derived.Laws.StructEq
import Derived.Lib.QuietBelow
namespace Go.Proofs.YtdmgffcabjpihaaGreatDoor
open Go.RowKit Go.Sort

/-- The first place of a thing in a list, or -1. -/
def idx {α : Type} [BEq α] : List α → α → Int
  | [], _ => -1
  | x :: L, a => if x == a then 0 else if idx L a < 0 then -1 else idx L a + 1
section
variable {α : Type} [BEq α] [LawfulBEq α]
theorem idx_at : ∀ {L : List α} {k : Nat} {a : α}, has (L.take k) a = false → L[k]? = some a → idx L a = (k : Int)
  | [], k, a, _, h => by simp at h
  | x :: L, 0, a, _, h => by
    have : x = a := by simpa using h
    subst this
    simp [idx]
  | x :: L, k + 1, a, h, hk => by
    have hk' : L[k]? = some a := by simpa using hk
    simp only [List.take_succ_cons, has_cons, Bool.or_eq_false_iff] at h
    have ih := idx_at h.2 hk'
    have hx : (x == a) = false := by have h1 := h.1; rw [beq_eq_false_iff_ne] at h1 ⊢; exact fun e => h1 e.symm
    rw [idx, hx, ih]
    simp
    omega
theorem idx_none : ∀ {L : List α} {a : α}, has L a = false → idx L a = -1
  | [], a, _ => rfl
  | x :: L, a, h => by
    simp only [has_cons, Bool.or_eq_false_iff] at h
    have hx : (x == a) = false := by have h1 := h.1; rw [beq_eq_false_iff_ne] at h1 ⊢; exact fun e => h1 e.symm
    rw [idx, hx, idx_none h.2]
    rfl
theorem idx_some : ∀ {L : List α} {a : α}, has L a = true → ∃ k : Nat, idx L a = (k : Int) ∧ L[k]? = some a ∧ has (L.take k) a = false
  | [], a, h => by cases h
  | x :: L, a, h => by
    by_cases hx : x = a
    · subst hx
      exact ⟨0, by simp [idx], rfl, rfl⟩
    · have hx2 : (x == a) = false := by simpa using hx
      have hx3 : (a == x) = false := by simpa using fun e => hx e.symm
      rw [has_cons, hx3, Bool.false_or] at h
      obtain ⟨k, h1, h2, h3⟩ := idx_some h
      refine ⟨k + 1, ?_, by simpa using h2, ?_⟩
      · rw [idx, hx2, h1]; simp; omega
      · rw [List.take_succ_cons, has_cons, hx3, h3]; rfl
theorem take_no {L : List α} {k : Nat} {a x : α} (h : has (L.take k) a = false) (hk : L[k]? = some x) (hx : x ≠ a) : has (L.take (k + 1)) a = false := by
  rw [List.take_add_one, hk, Bool.eq_false_iff]
  intro hc
  rw [has_iff, List.mem_append] at hc
  rcases hc with hc | hc
  · rw [← has_iff, h] at hc; cases hc
  · simp at hc; exact hx hc.symm
theorem has_at {L : List α} {k : Nat} {a : α} (hk : L[k]? = some a) : has L a = true := by
  rw [has_iff]; exact List.mem_of_getElem? hk
theorem has_take {L : List α} {k q : Nat} {a : α} (h : L[q]? = some a) (hq : q < k) : has (L.take k) a = true := by
  rw [has_iff, List.mem_iff_getElem?]
  exact ⟨q, by rw [List.getElem?_take_of_lt hq, h]⟩
theorem idx_has {L : List α} {a : α} : decide (0 ≤ idx L a) = has L a := by
  cases h : has L a
  · rw [idx_none h]; rfl
  · obtain ⟨k, h1, _⟩ := idx_some h
    rw [h1]; simp
theorem idx_bd {L : List α} {a : α} : -1 ≤ idx L a ∧ idx L a ≤ L.length := by
  cases h : has L a
  · rw [idx_none h]; omega
  · obtain ⟨k, h1, h2, _⟩ := idx_some h
    have := (List.getElem?_eq_some_iff.1 h2).1
    rw [h1]; omega
end
theorem take_all {α : Type} [BEq α] {L : List α} {k : Nat} {a : α} (h : has (L.take k) a = false) (hk : L.length ≤ k) : has L a = false := by
  rwa [List.take_of_length_le hk] at h
theorem Mem.take {α : Type} {w : World} {A : Option Addr} {f : α → List Value} {L : List α} (h : Mem w A (L.flatMap f)) (k : Nat) : Mem w A ((L.take k).flatMap f) := fun hne => by
  have e : L.flatMap f = (L.take k).flatMap f ++ (L.drop k).flatMap f := by rw [← List.flatMap_append, List.take_append_drop]
  have hne2 : L.flatMap f ≠ [] := by
    rw [e]
    intro h0
    exact hne (List.append_eq_nil_iff.1 h0).1
  obtain ⟨b, off, ea, hc⟩ := h hne2
  refine ⟨b, off, ea, fun j u hu => hc j u ?_⟩
  rw [e, List.getElem?_append_left (List.getElem?_eq_some_iff.1 hu).1]
  exact hu

theorem sp_ne {s x : Sp} (h : ¬ s = x) : (x.x == s.x) = false ∨ ((x.x == s.x) = true ∧ (x.y == s.y) = false) := by
  by_cases h1 : x.x = s.x
  · refine .inr ⟨by simpa using h1, ?_⟩
    rw [beq_eq_false_iff_ne]
    intro h2
    cases s; cases x
    simp_all
  · exact .inl (by simpa using h1)
end Go.Proofs.YtdmgffcabjpihaaGreatDoor
