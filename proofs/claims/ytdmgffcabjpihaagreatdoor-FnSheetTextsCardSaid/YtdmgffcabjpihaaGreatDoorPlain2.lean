/-
  Plain mathematics on lists of numbers: least, greatest, the first least, times.
-/
import Derived.Test.YtdmgffcabjpihaaGreatDoorPlain
namespace Go.Proofs.YtdmgffcabjpihaaGreatDoor
open Go.RowKit

def srcOk (L : List Sp) : Bool := (L.all isSp && decide (L.length ≤ 40)) && decide (0 < L.length)
theorem srcOk_iff {L : List Sp} : srcOk L = true ↔ L.all isSp = true ∧ L.length ≤ 40 ∧ 0 < L.length := by simp [srcOk, and_assoc]
theorem all_at {α : Type} {L : List α} {f : α → Bool} (h : L.all f = true) {k : Nat} {a : α} (hk : L[k]? = some a) : f a = true := List.all_eq_true.1 h a (List.mem_of_getElem? hk)

/-- The time between two spots; the times of all spots at one. -/
def tm (a b : Sp) : Int := sndT (sq a b)
theorem tm_comm (a b : Sp) : tm a b = tm b a := by unfold tm; rw [sq_comm]
theorem tm_bd {a b : Sp} (ha : isSp a = true) (hb : isSp b = true) : 0 ≤ tm a b ∧ tm a b ≤ 302 := by
  have h := sq_bd ha hb
  have := (sndT_spec h.1 h.2).1
  unfold tm
  omega
def times (L : List Sp) (a : Sp) : List Int := L.map fun b => tm a b
theorem times_len (L : List Sp) (a : Sp) : (times L a).length = L.length := by simp [times]
theorem times_at {L : List Sp} {a b : Sp} {k : Nat} (h : L[k]? = some b) : (times L a)[k]? = some (tm a b) := by simp [times, h]
theorem times_bd {L : List Sp} {a : Sp} (hL : L.all isSp = true) (ha : isSp a = true) {k : Nat} {t : Int} (h : (times L a)[k]? = some t) : 0 ≤ t ∧ t ≤ 302 := by
  simp only [times, List.getElem?_map, Option.map_eq_some_iff] at h
  obtain ⟨b, hb, rfl⟩ := h
  exact tm_bd ha (all_at hL hb)

/-- Folding over the first so many. -/
theorem fold_succ {α β : Type} (f : β → α → β) (z : β) {L : List α} {k : Nat} {a : α} (h : L[k]? = some a) : (L.take (k + 1)).foldl f z = f ((L.take k).foldl f z) a := by
  rw [List.take_add_one, h, List.foldl_append]
  rfl
theorem fold_all {α β : Type} (f : β → α → β) (z : β) {L : List α} {k : Nat} (h : L.length ≤ k) : (L.take k).foldl f z = L.foldl f z := by rw [List.take_of_length_le h]

def lowOf (L : List Int) : Int := L.foldl min (L.headD 0)
def highOf (L : List Int) : Int := L.foldl max (L.headD 0)
def spr (L : List Sp) (a : Sp) : Int := highOf (times L a) - lowOf (times L a)

theorem foldl_min_le (L : List Int) : ∀ z : Int, L.foldl min z ≤ z := by
  induction L with
  | nil => intro z; exact Int.le_refl _
  | cons x L ih => intro z; have := ih (min z x); simp only [List.foldl_cons]; omega
theorem foldl_min_ge (L : List Int) (m : Int) : ∀ z : Int, m ≤ z → (∀ x ∈ L, m ≤ x) → m ≤ L.foldl min z := by
  induction L with
  | nil => intro z h _; exact h
  | cons x L ih => intro z h hx; exact ih _ (by have := hx x (by simp); omega) (fun y hy => hx y (by simp [hy]))
theorem foldl_min_mem (L : List Int) : ∀ z : Int, ∀ x ∈ L, L.foldl min z ≤ x := by
  induction L with
  | nil => intro z x h; cases h
  | cons y L ih =>
    intro z x hx
    simp only [List.foldl_cons]
    rcases List.mem_cons.1 hx with rfl | hx
    · have := foldl_min_le L (min z x); omega
    · exact ih _ x hx
theorem foldl_max_ge (L : List Int) : ∀ z : Int, z ≤ L.foldl max z := by
  induction L with
  | nil => intro z; exact Int.le_refl _
  | cons x L ih => intro z; have := ih (max z x); simp only [List.foldl_cons]; omega
theorem foldl_max_le (L : List Int) (m : Int) : ∀ z : Int, z ≤ m → (∀ x ∈ L, x ≤ m) → L.foldl max z ≤ m := by
  induction L with
  | nil => intro z h _; exact h
  | cons x L ih => intro z h hx; exact ih _ (by have := hx x (by simp); omega) (fun y hy => hx y (by simp [hy]))
theorem foldl_max_mem (L : List Int) : ∀ z : Int, ∀ x ∈ L, x ≤ L.foldl max z := by
  induction L with
  | nil => intro z x h; cases h
  | cons y L ih =>
    intro z x hx
    simp only [List.foldl_cons]
    rcases List.mem_cons.1 hx with rfl | hx
    · have := foldl_max_ge L (max z x); omega
    · exact ih _ x hx
theorem foldl_max_of_mem (L : List Int) (z : Int) (h : ∃ x ∈ L, z ≤ x) (z' : Int) (h' : ∃ x ∈ L, z' ≤ x) : L.foldl max z = L.foldl max z' := by
  obtain ⟨x, hx, hzx⟩ := h
  obtain ⟨y, hy, hzy⟩ := h'
  have a1 := foldl_max_mem L z'
  have a2 := foldl_max_mem L z
  have b1 := foldl_max_le L (L.foldl max z') z (by have := a1 x hx; omega) a1
  have b2 := foldl_max_le L (L.foldl max z) z' (by have := a2 y hy; omega) a2
  omega
theorem head_mem {L : List Int} (h : 0 < L.length) : L.headD 0 ∈ L := by
  cases L with
  | nil => simp at h
  | cons x L => simp
theorem headD_at {L : List Int} (h : 0 < L.length) : L[0]? = some (L.headD 0) := by
  cases L with
  | nil => simp at h
  | cons x L => simp
/-- The greatest, begun at anything that is no greater than all. -/
theorem highOf_from {L : List Int} (h : 0 < L.length) {z : Int} (hz : ∀ x ∈ L, z ≤ x) : L.foldl max z = highOf L :=
  foldl_max_of_mem L z ⟨_, head_mem h, hz _ (head_mem h)⟩ _ ⟨_, head_mem h, Int.le_refl _⟩
theorem low_le_high {L : List Int} (h : 0 < L.length) : lowOf L ≤ highOf L := by
  have h1 := foldl_min_mem L (L.headD 0) _ (head_mem h)
  have h2 := foldl_max_mem L (L.headD 0) _ (head_mem h)
  unfold lowOf highOf
  omega
theorem low_bd {L : List Int} {m M : Int} (h : 0 < L.length) (hb : ∀ x ∈ L, m ≤ x ∧ x ≤ M) : m ≤ lowOf L ∧ lowOf L ≤ M := by
  have h0 := hb _ (head_mem h)
  have h1 := foldl_min_ge L m (L.headD 0) h0.1 (fun x hx => (hb x hx).1)
  have h2 := foldl_min_le L (L.headD 0)
  unfold lowOf
  omega
theorem high_bd {L : List Int} {m M : Int} (h : 0 < L.length) (hb : ∀ x ∈ L, m ≤ x ∧ x ≤ M) : m ≤ highOf L ∧ highOf L ≤ M := by
  have h0 := hb _ (head_mem h)
  have h1 := foldl_max_le L M (L.headD 0) h0.2 (fun x hx => (hb x hx).2)
  have h2 := foldl_max_ge L (L.headD 0)
  unfold highOf
  omega

/-- The first index of the first k whose number is the least. -/
def argmin (T : List Int) : Nat → Nat
  | 0 => 0
  | k + 1 => if T.getD k 0 < T.getD (argmin T k) 0 then k else argmin T k
theorem argmin_lt (T : List Int) : ∀ k, 0 < T.length → k ≤ T.length → argmin T k < T.length
  | 0, h, _ => h
  | k + 1, h, hk => by
    unfold argmin
    split
    · omega
    · exact argmin_lt T k h (by omega)
theorem argmin_step {T : List Int} {k : Nat} {t u : Int} (ht : T[k]? = some t) (hu : T[argmin T k]? = some u) : argmin T (k + 1) = if t < u then k else argmin T k := by
  have e1 : T.getD k 0 = t := by simp [List.getD, ht]
  have e2 : T.getD (argmin T k) 0 = u := by simp [List.getD, hu]
  rw [argmin, e1, e2]

/-- The indices of the first k whose thing is fine. -/
def pick {α : Type} (p : Nat → α → Bool) (L : List α) (k : Nat) : List Int := ((L.take k).zipIdx.filter fun x => p x.2 x.1).map fun x => (x.2 : Int)
theorem pick_zero {α : Type} (p : Nat → α → Bool) (L : List α) : pick p L 0 = [] := by simp [pick]
theorem pick_succ {α : Type} {p : Nat → α → Bool} {L : List α} {k : Nat} {a : α} (h : L[k]? = some a) : pick p L (k + 1) = if p k a then pick p L k ++ [(k : Int)] else pick p L k := by
  have hl : k < L.length := (List.getElem?_eq_some_iff.1 h).1
  unfold pick
  rw [List.take_add_one, h, List.zipIdx_append, List.filter_append, List.map_append]
  have : (L.take k).length = k := by simp; omega
  cases hp : p k a <;> simp [this, hp]
theorem pick_len {α : Type} (p : Nat → α → Bool) (L : List α) (k : Nat) : (pick p L k).length ≤ L.length := by
  unfold pick
  rw [List.length_map]
  refine Nat.le_trans (List.length_filter_le _ _) ?_
  simp
  omega
theorem pick_more {α : Type} (p : Nat → α → Bool) {L : List α} {k : Nat} (h : L.length ≤ k) : pick p L k = pick p L L.length := by
  unfold pick
  rw [List.take_of_length_le h, List.take_length]
theorem ite_min {a s : Int} : (if s < a then s else a) = min a s := by split <;> omega
theorem ite_max {a s : Int} : (if a < s then s else a) = max a s := by split <;> omega
theorem ret_pair {a b : Int} {c d : Bool} (h : a = b) (h' : c = d) : Ending.returned (.tuple #[.int .i64 a, .bool c]) = .returned (.tuple #[.int .i64 b, .bool d]) := by rw [h, h']
theorem ret_ints {a b c d : Int} (h : a = b) (h' : c = d) : Ending.returned (.tuple #[.int .i64 a, .int .i64 c]) = .returned (.tuple #[.int .i64 b, .int .i64 d]) := by rw [h, h']
theorem ret_three {a b c d : Int} {x y : Bool} (h : a = b) (h' : c = d) (h'' : x = y) : Ending.returned (.tuple #[.int .i64 a, .int .i64 c, .bool x]) = .returned (.tuple #[.int .i64 b, .int .i64 d, .bool y]) := by rw [h, h', h'']
end Go.Proofs.YtdmgffcabjpihaaGreatDoor
