/-
  Plain mathematics, no program in sight: what the small functions compute.
-/
import Derived.WalkKit
namespace Go.Proofs.YtdmgffcabjpihaaGreatDoor
open Go.RowKit

/-- A spot: two numbers. -/
structure Sp where
  x : Int
  y : Int
deriving DecidableEq

def okInt (n : Int) : Prop := -9223372036854775808 ≤ n ∧ n ≤ 9223372036854775807
def okSp (s : Sp) : Prop := okInt s.x ∧ okInt s.y

/-- n lies in lo..hi. -/
def inR (n lo hi : Int) : Bool := decide (lo ≤ n) && decide (n ≤ hi)
theorem inR_iff {n lo hi : Int} : inR n lo hi = true ↔ lo ≤ n ∧ n ≤ hi := by simp [inR]
theorem inR_no {n lo hi : Int} : inR n lo hi = false ↔ (n < lo ∨ hi < n) := by
  rw [← Bool.not_eq_true, inR_iff]; omega

def isSp (s : Sp) : Bool := inR s.x 0 1280 && inR s.y 0 672
theorem isSp_iff {s : Sp} : isSp s = true ↔ (0 ≤ s.x ∧ s.x ≤ 1280) ∧ (0 ≤ s.y ∧ s.y ≤ 672) := by simp [isSp, inR]

def sq (a b : Sp) : Int := (a.x - b.x) * (a.x - b.x) + (a.y - b.y) * (a.y - b.y)

theorem mul_self_bd {d m : Int} (h1 : -m ≤ d) (h2 : d ≤ m) : 0 ≤ d * d ∧ d * d ≤ m * m := by
  refine ⟨by rcases Int.le_total 0 d with h | h; exact Int.mul_nonneg h h; exact Int.mul_nonneg_of_nonpos_of_nonpos h h, ?_⟩
  rcases Int.le_total 0 d with h | h
  · exact Int.mul_le_mul h2 h2 h (by omega)
  · have : d * d = (-d) * (-d) := (Int.neg_mul_neg d d).symm
    rw [this]
    exact Int.mul_le_mul (by omega) (by omega) (by omega) (by omega)

theorem sq_parts {a b : Sp} (ha : isSp a = true) (hb : isSp b = true) :
    (0 ≤ (a.x - b.x) * (a.x - b.x) ∧ (a.x - b.x) * (a.x - b.x) ≤ 1638400) ∧ (0 ≤ (a.y - b.y) * (a.y - b.y) ∧ (a.y - b.y) * (a.y - b.y) ≤ 451584) := by
  have h1 := isSp_iff.1 ha
  have h2 := isSp_iff.1 hb
  have h3 := mul_self_bd (d := a.x - b.x) (m := 1280) (by omega) (by omega)
  have h4 := mul_self_bd (d := a.y - b.y) (m := 672) (by omega) (by omega)
  omega
theorem sq_bd {a b : Sp} (ha : isSp a = true) (hb : isSp b = true) : 0 ≤ sq a b ∧ sq a b ≤ 2089984 := by
  have := sq_parts ha hb
  unfold sq
  omega
theorem sq_comm (a b : Sp) : sq a b = sq b a := by
  have h (c d : Int) : (c - d) * (c - d) = (d - c) * (d - c) := by
    have : c - d = -(d - c) := by omega
    rw [this, Int.neg_mul_neg]
  unfold sq
  rw [h a.x, h a.y]

theorem all_take_zero {α : Type} (L : List α) (f : α → Bool) : Hid ((L.take 0).all f = true) := by show _ = true; simp
theorem all_take_succ {α : Type} {L : List α} {f : α → Bool} {k : Nat} {s : α} (H : Hid ((L.take k).all f = true)) (hs : Hid (L[k]? = some s)) (h : f s = true) : Hid ((L.take (k + 1)).all f = true) := by
  show _ = true
  rw [List.take_add_one, hs.out, List.all_append, H.out]
  simp [h]
theorem all_no {α : Type} {L : List α} {f : α → Bool} {k : Nat} {s : α} (hs : Hid (L[k]? = some s)) (h : f s = false) : L.all f = false := by
  rw [List.all_eq_false]
  exact ⟨s, List.mem_of_getElem? hs.out, by simp [h]⟩
theorem all_yes {α : Type} {L : List α} {f : α → Bool} {k : Nat} (H : Hid ((L.take k).all f = true)) (h : L.length ≤ k) : L.all f = true := by
  have := H.out
  rwa [List.take_of_length_le h] at this
theorem ret_bool {a b : Bool} (h : a = b) : Ending.returned (.bool a) = .returned (.bool b) := by rw [h]

/-- Four thousand eight hundred times t, squared (as the program reckons it). -/
def way2 (t : Int) : Int := 4800 * t * 4800 * t
theorem way2_eq (t : Int) : way2 t = 23040000 * (t * t) := by
  have h : 4800 * t * 4800 * t = (4800 * 4800) * (t * t) := by
    rw [Int.mul_right_comm 4800 t 4800, Int.mul_assoc (4800 * 4800) t t]
  exact h
theorem way2_mono {s t : Int} (h0 : 0 ≤ s) (h : s ≤ t) : way2 s ≤ way2 t := by
  rw [way2_eq, way2_eq]
  have := Int.mul_le_mul h h h0 (by omega)
  omega
theorem way2_nonneg {t : Int} (h : 0 ≤ t) : 0 ≤ way2 t := by have := way2_mono (Int.le_refl 0) h; have e : way2 0 = 0 := rfl; omega

/-- The least time (in thousandths) in which sound goes a way with a square. -/
def sndT (n : Int) : Nat := ((List.range 1001).find? fun t : Nat => decide (1000000 * n ≤ way2 t)).getD 1001
theorem sndT_eq {n : Int} {t : Nat} (ht : t ≤ 1000) (h1 : 1000000 * n ≤ way2 t) (h2 : ∀ s : Nat, s < t → way2 s < 1000000 * n) : sndT n = t := by
  have : (List.range 1001).find? (fun t : Nat => decide (1000000 * n ≤ way2 t)) = some t := by
    rw [List.find?_range_eq_some]
    refine ⟨by simpa using h1, by simp; omega, fun j hj => ?_⟩
    have := h2 j hj
    simp; omega
  unfold sndT
  rw [this]
  rfl
theorem sndT_spec {n : Int} (_h0 : 0 ≤ n) (h : n ≤ 2089984) : sndT n ≤ 302 ∧ 1000000 * n ≤ way2 (sndT n) ∧ ∀ s : Nat, s < sndT n → way2 s < 1000000 * n := by
  have hex : ∃ t : Nat, t ≤ 302 ∧ 1000000 * n ≤ way2 t ∧ ∀ s : Nat, s < t → way2 s < 1000000 * n := by
    have key : ∀ k : Nat, k ≤ 302 → (∃ t : Nat, t ≤ 302 ∧ 1000000 * n ≤ way2 t ∧ ∀ s : Nat, s < t → way2 s < 1000000 * n) ∨ ∀ s : Nat, s < k → way2 s < 1000000 * n := by
      intro k
      induction k with
      | zero => intro _; exact .inr (fun s hs => absurd hs (by omega))
      | succ k ih =>
        intro hk
        rcases ih (by omega) with h1 | h1
        · exact .inl h1
        · by_cases h2 : 1000000 * n ≤ way2 k
          · exact .inl ⟨k, by omega, h2, h1⟩
          · refine .inr fun s hs => ?_
            rcases Nat.lt_or_eq_of_le (Nat.le_of_lt_succ hs) with h3 | h3
            · exact h1 s h3
            · subst h3; omega
    rcases key 302 (by omega) with h1 | h1
    · exact h1
    · refine ⟨302, by omega, ?_, h1⟩
      have e : way2 ((302 : Nat) : Int) = 2101340160000 := rfl
      omega
  obtain ⟨t, h1, h2, h3⟩ := hex
  rw [sndT_eq (by omega) h2 h3]
  exact ⟨h1, h2, h3⟩
end Go.Proofs.YtdmgffcabjpihaaGreatDoor
