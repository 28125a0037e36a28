/-
  Plain mathematics on charts, absent performers, covers.
-/
import Derived.Test.YtdmgffcabjpihaaGreatDoorPlain2
namespace Go.Proofs.YtdmgffcabjpihaaGreatDoor
open Go.RowKit

/-- Does a list hold a thing? -/
def has {α : Type} [BEq α] (L : List α) (a : α) : Bool := L.contains a
theorem has_cons {α : Type} [BEq α] (x : α) (L : List α) (a : α) : has (x :: L) a = (a == x || has L a) := by unfold has; rw [List.contains_cons]
theorem has_iff {α : Type} [BEq α] [LawfulBEq α] {L : List α} {a : α} : has L a = true ↔ a ∈ L := by unfold has; exact List.contains_iff_mem
theorem has_no {α : Type} [BEq α] [LawfulBEq α] {L : List α} {a : α} : has L a = false ↔ a ∉ L := by rw [← has_iff, Bool.not_eq_true]

/-- Strictly increasing numbers in 0..hi, the first k. -/
def riseTo (l : List Int) (hi : Int) : Nat → Bool
  | 0 => true
  | k + 1 => riseTo l hi k && (inR (l.getD k 0) 0 hi && (decide (k = 0) || decide (l.getD (k - 1) 0 < l.getD k 0)))
def riseOk (l : List Int) (hi : Int) : Bool := riseTo l hi l.length
theorem riseTo_mono {l : List Int} {hi : Int} {k : Nat} (h : riseTo l hi k = false) : ∀ j, k ≤ j → riseTo l hi j = false
  | 0, hj => by have : k = 0 := by omega
                subst this; exact h
  | j + 1, hj => by
    by_cases e : k = j + 1
    · subst e; exact h
    · rw [riseTo, riseTo_mono h j (by omega)]; rfl
theorem riseTo_no {l : List Int} {hi x : Int} {k : Nat} (hx : l[k]? = some x) (h : inR x 0 hi = false ∨ ∃ y, 0 < k ∧ l[k - 1]? = some y ∧ x ≤ y) : riseOk l hi = false := by
  have hk : k < l.length := (List.getElem?_eq_some_iff.1 hx).1
  refine riseTo_mono (k := k + 1) ?_ _ (by omega)
  have e1 : l.getD k 0 = x := by simp [List.getD, hx]
  rw [riseTo, e1]
  rcases h with h | ⟨y, h0, hy, hxy⟩
  · simp [h]
  · have e2 : l.getD (k - 1) 0 = y := by simp [List.getD, hy]
    have e3 : decide (y < x) = false := decide_eq_false (by omega)
    have e4 : decide (k = 0) = false := decide_eq_false (by omega)
    rw [e2, e3, e4]; simp
theorem riseTo_yes {l : List Int} {hi x : Int} {k : Nat} (H : riseTo l hi k = true) (hx : l[k]? = some x) (h : inR x 0 hi = true) (h2 : k = 0 ∨ ∃ y, l[k - 1]? = some y ∧ y < x) : riseTo l hi (k + 1) = true := by
  have e1 : l.getD k 0 = x := by simp [List.getD, hx]
  rw [riseTo, e1, H, h]
  rcases h2 with h2 | ⟨y, hy, hxy⟩
  · simp [h2]
  · have e2 : l.getD (k - 1) 0 = y := by simp [List.getD, hy]
    rw [e2, decide_eq_true hxy]; simp
theorem riseTo_at {l : List Int} {hi x : Int} : ∀ {n k : Nat}, riseTo l hi n = true → k < n → l[k]? = some x → inR x 0 hi = true
  | n + 1, k, h, hk, hx => by
    rw [riseTo, Bool.and_eq_true, Bool.and_eq_true] at h
    by_cases e : k = n
    · subst e
      have e1 : l.getD k 0 = x := by simp [List.getD, hx]
      rw [e1] at h
      exact h.2.1
    · exact riseTo_at h.1 (by omega) hx
theorem rise_at {l : List Int} {hi x : Int} {k : Nat} (h : riseOk l hi = true) (hx : l[k]? = some x) : 0 ≤ x ∧ x ≤ hi :=
  inR_iff.1 (riseTo_at h (List.getElem?_eq_some_iff.1 hx).1 hx)
theorem rise_mem {l : List Int} {hi x : Int} (h : riseOk l hi = true) (hx : x ∈ l) : 0 ≤ x ∧ x ≤ hi := by
  obtain ⟨k, hk⟩ := List.getElem?_of_mem hx
  exact rise_at h hk
theorem rise_grow {l : List Int} {hi x : Int} : ∀ {n k : Nat}, riseTo l hi n = true → k < n → l[k]? = some x → (k : Int) ≤ x
  | n + 1, k, h, hk, hx => by
    have h0 := h
    rw [riseTo, Bool.and_eq_true, Bool.and_eq_true] at h
    by_cases e : k = n
    · subst e
      have e1 : l.getD k 0 = x := by simp [List.getD, hx]
      rw [e1] at h
      have hl : k < l.length := (List.getElem?_eq_some_iff.1 hx).1
      rcases Nat.eq_zero_or_pos k with hz | hz
      · subst hz
        have := inR_iff.1 h.2.1
        omega
      · have hb : k - 1 < l.length := by omega
        have hy : l[k - 1]? = some (l[k - 1]) := List.getElem?_eq_getElem hb
        have ih := rise_grow (k := k - 1) h.1 (by omega) hy
        have e2 : l.getD (k - 1) 0 = l[k - 1] := by simp [List.getD, hy]
        rw [e2] at h
        have := h.2.2
        simp only [Bool.or_eq_true, decide_eq_true_eq] at this
        omega
    · exact rise_grow h.1 (by omega) hx
/-- Such a list has at most hi + 1 numbers. -/
theorem rise_len {l : List Int} {hi : Int} (h : riseOk l hi = true) (h0 : -1 ≤ hi) : (l.length : Int) ≤ hi + 1 := by
  rcases Nat.eq_zero_or_pos l.length with hz | hz
  · omega
  · have hb : l.length - 1 < l.length := by omega
    have hy : l[l.length - 1]? = some (l[l.length - 1]) := List.getElem?_eq_getElem hb
    have h1 := rise_grow (k := l.length - 1) h (by omega) hy
    have h2 := rise_at h hy
    omega

/-- A chart: spots, no two alike, 1 to 12. -/
def chTo (L : List Sp) : Nat → Bool
  | 0 => true
  | k + 1 => chTo L k && (isSp (L.getD k ⟨0, 0⟩) && !has (L.take k) (L.getD k ⟨0, 0⟩))
def chOk (L : List Sp) : Bool := inR L.length 1 12 && chTo L L.length
theorem chTo_mono {L : List Sp} {k : Nat} (h : chTo L k = false) : ∀ j, k ≤ j → chTo L j = false
  | 0, hj => by have : k = 0 := by omega
                subst this; exact h
  | j + 1, hj => by
    by_cases e : k = j + 1
    · subst e; exact h
    · rw [chTo, chTo_mono h j (by omega)]; rfl
theorem chTo_no {L : List Sp} {k : Nat} {s : Sp} (hs : L[k]? = some s) (h : isSp s = false ∨ has (L.take k) s = true) : chTo L L.length = false := by
  have hk : k < L.length := (List.getElem?_eq_some_iff.1 hs).1
  refine chTo_mono (k := k + 1) ?_ _ (by omega)
  have e1 : L.getD k ⟨0, 0⟩ = s := by simp [List.getD, hs]
  rw [chTo, e1]
  rcases h with h | h
  · simp [h]
  · rw [h]; simp
theorem chTo_yes {L : List Sp} {k : Nat} {s : Sp} (H : chTo L k = true) (hs : L[k]? = some s) (h : isSp s = true) (h2 : has (L.take k) s = false) : chTo L (k + 1) = true := by
  have e1 : L.getD k ⟨0, 0⟩ = s := by simp [List.getD, hs]
  rw [chTo, e1, H, h, h2]; rfl
theorem chTo_at {L : List Sp} {s : Sp} : ∀ {n k : Nat}, chTo L n = true → k < n → L[k]? = some s → isSp s = true
  | n + 1, k, h, hk, hx => by
    rw [chTo, Bool.and_eq_true, Bool.and_eq_true] at h
    by_cases e : k = n
    · subst e
      have e1 : L.getD k ⟨0, 0⟩ = s := by simp [List.getD, hx]
      rw [e1] at h
      exact h.2.1
    · exact chTo_at h.1 (by omega) hx
theorem chOk_iff {L : List Sp} : chOk L = true ↔ (1 ≤ L.length ∧ L.length ≤ 12) ∧ chTo L L.length = true := by
  unfold chOk
  rw [Bool.and_eq_true, inR_iff]
  constructor
  · rintro ⟨h1, h2⟩; exact ⟨by omega, h2⟩
  · rintro ⟨h1, h2⟩; exact ⟨by omega, h2⟩
theorem ch_at {L : List Sp} {k : Nat} {s : Sp} (h : chOk L = true) (hs : L[k]? = some s) : isSp s = true := chTo_at (chOk_iff.1 h).2 (List.getElem?_eq_some_iff.1 hs).1 hs
theorem ch_all {L : List Sp} (h : chOk L = true) : L.all isSp = true := by
  rw [List.all_eq_true]
  intro s hs
  obtain ⟨k, hk⟩ := List.getElem?_of_mem hs
  exact ch_at h hk

/-- An absence. -/
def abOk (L : List Sp) (a n : List Int) : Bool := (chOk L && riseOk a (L.length - 1)) && riseOk n (L.length - 1)
theorem abOk_iff {L : List Sp} {a n : List Int} : abOk L a n = true ↔ chOk L = true ∧ riseOk a (L.length - 1) = true ∧ riseOk n (L.length - 1) = true := by simp [abOk, and_assoc]

theorem filter_take_succ {α : Type} {L : List α} {p : α → Bool} {k : Nat} {x : α} (h : L[k]? = some x) : (L.take (k + 1)).filter p = if p x then (L.take k).filter p ++ [x] else (L.take k).filter p := by
  rw [List.take_add_one, h, List.filter_append]
  cases hp : p x <;> simp [hp]
def opens (a n : List Int) : List Int := n.filter fun i => has a i
theorem opens_len (a n : List Int) : (opens a n).length ≤ n.length := List.length_filter_le _ _
/-- 0, 1, .. k - 1 -/
def upTo (k : Nat) : List Int := (List.range k).map fun i : Nat => (i : Int)
theorem upTo_succ (k : Nat) : upTo (k + 1) = upTo k ++ [(k : Int)] := by simp [upTo, List.range_succ]
theorem upTo_len (k : Nat) : (upTo k).length = k := by simp [upTo]
def spares (m : Nat) (a n : List Int) : List Int := (upTo m).filter fun i => !has a i && !has n i
theorem spares_len (m : Nat) (a n : List Int) : (spares m a n).length ≤ m := by
  have := List.length_filter_le (fun i : Int => !has a i && !has n i) (upTo m)
  rw [upTo_len] at this
  exact this
theorem spares_succ (m : Nat) (a n : List Int) : spares (m + 1) a n = if !has a (m : Int) && !has n (m : Int) then spares m a n ++ [(m : Int)] else spares m a n := by
  unfold spares
  rw [upTo_succ, List.filter_append]
  cases h : (!has a (m : Int) && !has n (m : Int)) <;> simp only [List.filter_cons, h, List.filter_nil] <;> simp
theorem spares_mem {m : Nat} {a n : List Int} {x : Int} (h : x ∈ spares m a n) : 0 ≤ x ∧ x < m := by
  unfold spares upTo at h
  have h1 := (List.mem_filter.1 h).1
  simp only [List.mem_map, List.mem_range] at h1
  obtain ⟨i, hi, rfl⟩ := h1
  omega
theorem opens_mem {a n : List Int} {x : Int} (h : x ∈ opens a n) : x ∈ n ∧ has a x = true := by
  unfold opens at h
  exact ⟨(List.mem_filter.1 h).1, (List.mem_filter.1 h).2⟩

/-- A cover: the first k movers. -/
def covTo (sp mv : List Int) : Nat → Bool
  | 0 => true
  | k + 1 => covTo sp mv k && (has sp (mv.getD k 0) && !has (mv.take k) (mv.getD k 0))
def covOk (m : Nat) (a n mv : List Int) : Bool := covTo (spares m a n) mv mv.length && decide (mv.length = (opens a n).length)
theorem covTo_mono {sp mv : List Int} {k : Nat} (h : covTo sp mv k = false) : ∀ j, k ≤ j → covTo sp mv j = false
  | 0, hj => by have : k = 0 := by omega
                subst this; exact h
  | j + 1, hj => by
    by_cases e : k = j + 1
    · subst e; exact h
    · rw [covTo, covTo_mono h j (by omega)]; rfl
theorem covTo_no {sp mv : List Int} {k : Nat} {x : Int} (hx : mv[k]? = some x) (h : has sp x = false ∨ has (mv.take k) x = true) : covTo sp mv mv.length = false := by
  have hk : k < mv.length := (List.getElem?_eq_some_iff.1 hx).1
  refine covTo_mono (k := k + 1) ?_ _ (by omega)
  have e1 : mv.getD k 0 = x := by simp [List.getD, hx]
  rw [covTo, e1]
  rcases h with h | h
  · rw [h]; simp
  · rw [h]; simp
theorem covTo_yes {sp mv : List Int} {k : Nat} {x : Int} (H : covTo sp mv k = true) (hx : mv[k]? = some x) (h : has sp x = true) (h2 : has (mv.take k) x = false) : covTo sp mv (k + 1) = true := by
  have e1 : mv.getD k 0 = x := by simp [List.getD, hx]
  rw [covTo, e1, H, h, h2]; rfl
theorem covTo_at {sp mv : List Int} {x : Int} : ∀ {n k : Nat}, covTo sp mv n = true → k < n → mv[k]? = some x → has sp x = true ∧ has (mv.take k) x = false
  | n + 1, k, h, hk, hx => by
    rw [covTo, Bool.and_eq_true, Bool.and_eq_true] at h
    by_cases e : k = n
    · subst e
      have e1 : mv.getD k 0 = x := by simp [List.getD, hx]
      rw [e1] at h
      exact ⟨h.2.1, by simpa using h.2.2⟩
    · exact covTo_at h.1 (by omega) hx
theorem covOk_iff {m : Nat} {a n mv : List Int} : covOk m a n mv = true ↔ covTo (spares m a n) mv mv.length = true ∧ mv.length = (opens a n).length := by simp [covOk]
end Go.Proofs.YtdmgffcabjpihaaGreatDoor
