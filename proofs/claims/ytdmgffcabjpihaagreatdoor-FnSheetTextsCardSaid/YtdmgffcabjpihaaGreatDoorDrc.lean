/-
  Draws of charts: chFind, chartOf.
-/
import Derived.Test.YtdmgffcabjpihaaGreatDoorDrx
import Derived.Test.YtdmgffcabjpihaaGreatDoorCh
import Derived.Deep.RegionHeld3
namespace Go.Proofs.YtdmgffcabjpihaaGreatDoor
open Go.RowKit

/-- How many spots lie so low that a later try may meet them. -/
def cnt (L : List Sp) (t : Nat) : Nat := (L.filter fun s => decide (7 + (t : Int) ≤ s.y)).length
theorem cnt_le (L : List Sp) (t : Nat) : cnt L t ≤ L.length := List.length_filter_le _ _
theorem cnt_cons (s : Sp) (L : List Sp) (t : Nat) : cnt (s :: L) t = (if 7 + (t : Int) ≤ s.y then 1 else 0) + cnt L t := by
  unfold cnt
  rw [List.filter_cons]
  by_cases h : 7 + (t : Int) ≤ s.y
  · simp [h]; omega
  · simp [h]
theorem cnt_mono : ∀ (L : List Sp) (t : Nat), cnt L (t + 1) ≤ cnt L t
  | [], _ => Nat.le_refl _
  | s :: L, t => by
    have ih := cnt_mono L t
    rw [cnt_cons, cnt_cons]
    split <;> split <;> omega
theorem cnt_has : ∀ (L : List Sp) (t : Nat) (x : Int), has L ⟨x, 7 + (t : Int)⟩ = true → cnt L (t + 1) + 1 ≤ cnt L t
  | [], _, _, h => by simp [has] at h
  | s :: L, t, x, h => by
    have hm := cnt_mono L t
    rw [has_cons, Bool.or_eq_true] at h
    rw [cnt_cons, cnt_cons]
    rcases h with h | h
    · have e : (⟨x, 7 + (t : Int)⟩ : Sp) = s := by simpa using h
      have e2 : s.y = 7 + (t : Int) := by rw [← e]
      rw [if_neg (show ¬ 7 + ((t + 1 : Nat) : Int) ≤ s.y by omega), if_pos (show 7 + (t : Int) ≤ s.y by omega)]
      omega
    · have ih := cnt_has L t x h
      split <;> split <;> omega
theorem cnt_snoc (L : List Sp) (t : Nat) (x : Int) : cnt (L ++ [⟨x, 7 + (t : Int)⟩]) (t + 1) = cnt L (t + 1) := by
  unfold cnt
  rw [List.filter_append]
  simp
  omega
/-- So often is tried. -/
def pot (L : List Sp) (m t : Nat) : Prop := t ≤ 60 ∨ t + (m - L.length) + cnt L t ≤ 87
theorem pot_le {L : List Sp} {m t : Nat} (h : pot L m t) : t ≤ 87 := by
  rcases h with h | h <;> omega
theorem pot_next {L : List Sp} {m t : Nat} (h : pot L m t) (hm : m ≤ 13) (hl : L.length < m) {s : Sp} (hs : 60 < t → s = ⟨3 * (L.length : Int), 7 + (t : Int)⟩) (has_ : has L s = true) : pot L m (t + 1) := by
  have h1 := cnt_le L (t + 1)
  by_cases ht : 60 < t
  · right
    rcases h with h | h
    · omega
    · have := hs ht
      subst this
      have := cnt_has L t _ has_
      omega
  · by_cases h60 : t = 60
    · right; omega
    · left; omega
theorem pot_more {L : List Sp} {m t : Nat} (h : pot L m t) (hm : m ≤ 13) (hl : L.length < m) {s : Sp} (hs : 60 < t → s = ⟨3 * (L.length : Int), 7 + (t : Int)⟩) : pot (L ++ [s]) m (t + 1) := by
  have h1 := cnt_le (L ++ [s]) (t + 1)
  rw [List.length_append] at h1
  simp only [List.length_singleton] at h1
  by_cases ht : 60 < t
  · right
    rcases h with h | h
    · omega
    · have := hs ht
      subst this
      rw [cnt_snoc, List.length_append]
      have := cnt_mono L t
      simp only [List.length_singleton]
      omega
  · by_cases h60 : t = 60
    · right; rw [List.length_append]; simp only [List.length_singleton]; omega
    · left; omega
end Go.Proofs.YtdmgffcabjpihaaGreatDoor
