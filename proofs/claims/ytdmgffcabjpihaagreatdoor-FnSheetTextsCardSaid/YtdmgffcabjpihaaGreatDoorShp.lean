/-
  Plain mathematics on sheets: rows, moves, where one is after so many counts.
-/
import Derived.Test.YtdmgffcabjpihaaGreatDoorPlain2
import Derived.Test.YtdmgffcabjpihaaGreatDoorRow
import Derived.Test.YtdmgffcabjpihaaGreatDoorMov
namespace Go.Proofs.YtdmgffcabjpihaaGreatDoor
open Go.RowKit

def isRw (r : Rw) : Bool := inR r.c 1 64 && isSp r.t
theorem isRw_iff {r : Rw} : isRw r = true ↔ (1 ≤ r.c ∧ r.c ≤ 64) ∧ isSp r.t = true := by simp [isRw, inR]
/-- A sheet. -/
def shOk (p : Int) (s : Sp) (L : List Rw) : Bool := ((inR p 0 11 && isSp s) && decide (L.length ≤ 8)) && L.all isRw
theorem shOk_iff {p : Int} {s : Sp} {L : List Rw} : shOk p s L = true ↔ inR p 0 11 = true ∧ isSp s = true ∧ L.length ≤ 8 ∧ L.all isRw = true := by simp [shOk, and_assoc]

/-- Where one stands before the row k. -/
def ats (s : Sp) (L : List Rw) : List Sp := s :: L.map Rw.t
theorem ats_len (s : Sp) (L : List Rw) : (ats s L).length = L.length + 1 := by simp [ats]
theorem ats_zero (s : Sp) (L : List Rw) : (ats s L)[0]? = some s := rfl
theorem ats_succ {s : Sp} {L : List Rw} {k : Nat} {r : Rw} (h : L[k]? = some r) : (ats s L)[k + 1]? = some r.t := by simp [ats, h]
/-- The moves of a sheet. -/
def mvs (s : Sp) (L : List Rw) : List Mv := List.zipWith (fun f r => ⟨f, r.t, r.c⟩) (ats s L) L
theorem mvs_len (s : Sp) (L : List Rw) : (mvs s L).length = L.length := by simp [mvs, ats]
theorem mvs_at {s f : Sp} {L : List Rw} {k : Nat} {r : Rw} (hf : (ats s L)[k]? = some f) (hr : L[k]? = some r) : (mvs s L)[k]? = some ⟨f, r.t, r.c⟩ := by
  simp [mvs, List.getElem?_zipWith, hf, hr]
theorem mvs_take {s f : Sp} {L : List Rw} {k : Nat} {r : Rw} (hf : (ats s L)[k]? = some f) (hr : L[k]? = some r) : (mvs s L).take (k + 1) = (mvs s L).take k ++ [⟨f, r.t, r.c⟩] := by
  rw [List.take_add_one, mvs_at hf hr]; rfl
theorem ats_ok {s : Sp} {L : List Rw} (hs : isSp s = true) (hL : L.all isRw = true) {k : Nat} {f : Sp} (h : (ats s L)[k]? = some f) : isSp f = true := by
  cases k with
  | zero => have : s = f := by simpa [ats] using h
            subst this; exact hs
  | succ k =>
    simp only [ats, List.getElem?_cons_succ, List.getElem?_map, Option.map_eq_some_iff] at h
    obtain ⟨r, hr, rfl⟩ := h
    exact (isRw_iff.1 (all_at hL hr)).2
def isMv (m : Mv) : Bool := (isSp m.f && isSp m.t) && inR m.c 1 64
theorem isMv_iff {m : Mv} : isMv m = true ↔ isSp m.f = true ∧ isSp m.t = true ∧ 1 ≤ m.c ∧ m.c ≤ 64 := by
  unfold isMv
  rw [Bool.and_eq_true, Bool.and_eq_true, inR_iff]
  constructor
  · rintro ⟨⟨h1, h2⟩, h3⟩; exact ⟨h1, h2, h3⟩
  · rintro ⟨h1, h2, h3⟩; exact ⟨⟨h1, h2⟩, h3⟩
theorem mvs_ok {s : Sp} {L : List Rw} (hs : isSp s = true) (hL : L.all isRw = true) {k : Nat} {m : Mv} (h : (mvs s L)[k]? = some m) : isMv m = true := by
  have hk : k < L.length := by
    have := (List.getElem?_eq_some_iff.1 h).1
    rwa [mvs_len] at this
  obtain ⟨r, hr⟩ := some_of_lt hk
  obtain ⟨f, hf⟩ := some_of_lt (L := ats s L) (k := k) (by rw [ats_len]; omega)
  rw [mvs_at hf hr] at h
  obtain rfl := Option.some.inj h
  have h1 := isRw_iff.1 (all_at hL hr)
  exact isMv_iff.2 ⟨ats_ok hs hL hf, h1.2, h1.1⟩

/-- The first longest: index and square. -/
def loTo (T : List Int) : Nat → Nat × Int
  | 0 => (0, -1)
  | k + 1 => if (loTo T k).2 < T.getD k 0 then (k, T.getD k 0) else loTo T k
theorem loTo_succ {T : List Int} {k n : Nat} {m t : Int} (h : loTo T k = (n, m)) (ht : T[k]? = some t) : loTo T (k + 1) = if m < t then (k, t) else (n, m) := by simp [loTo, h, ht]
def msq (s : Sp) (L : List Rw) : List Int := (mvs s L).map fun m => sq m.f m.t
theorem msq_at {s : Sp} {L : List Rw} {k : Nat} {m : Mv} (h : (mvs s L)[k]? = some m) : (msq s L)[k]? = some (sq m.f m.t) := by simp [msq, h]
def loOk (p : Int) (s : Sp) (L : List Rw) : Bool := shOk p s L && decide (0 < L.length)
def loV (p : Int) (s : Sp) (L : List Rw) : Int := if loOk p s L then ((loTo (msq s L) L.length).1 : Int) else 0

/-- Rounded to the nearest, halves up: a / b for b greater than 0. -/
def rdiv (a b : Int) : Int := (2 * a + b) / (2 * b)
def plX (m : Mv) (k : Int) : Int := m.f.x * m.c + k * (m.t.x - m.f.x)
def plY (m : Mv) (k : Int) : Int := m.f.y * m.c + k * (m.t.y - m.f.y)
def rnd (m : Mv) (k : Int) : Sp := ⟨rdiv (plX m k) m.c, rdiv (plY m k) m.c⟩
theorem rdiv_whole (x : Int) {c : Int} (h : 1 ≤ c) : rdiv (x * c) c = x := by
  unfold rdiv
  have e : 2 * (x * c) + c = c + x * (2 * c) := by
    have : 2 * (x * c) = x * (2 * c) := by rw [Int.mul_left_comm]
    omega
  rw [e, Int.add_mul_ediv_right _ _ (by omega), Int.ediv_eq_zero_of_lt (by omega) (by omega)]
  omega
theorem rnd_zero {m : Mv} (h : 1 ≤ m.c) : rnd m 0 = m.f := by
  unfold rnd plX plY
  rw [Int.zero_mul, Int.zero_mul, Int.add_zero, Int.add_zero, rdiv_whole _ h, rdiv_whole _ h]
theorem mul_bd {a b A B : Int} (ha : 0 ≤ a) (hA : a ≤ A) (hb : 0 ≤ b) (hB : b ≤ B) : 0 ≤ a * b ∧ a * b ≤ A * B :=
  ⟨Int.mul_nonneg ha hb, Int.mul_le_mul hA hB hb (by omega)⟩
theorem mul_bd2 {a b A B : Int} (ha : -A ≤ a) (hA : a ≤ A) (hb : 0 ≤ b) (hB : b ≤ B) : -(A * B) ≤ a * b ∧ a * b ≤ A * B := by
  have h0 : 0 ≤ A := by omega
  rcases Int.le_total 0 a with h | h
  · have := mul_bd h hA hb hB
    have h2 := Int.mul_nonneg h0 (show 0 ≤ B by omega)
    omega
  · have := mul_bd (a := -a) (A := A) (by omega) (by omega) hb hB
    rw [Int.neg_mul] at this
    have h2 := Int.mul_nonneg h0 (show 0 ≤ B by omega)
    omega
/-- What lies between: for k in 0..c the place is between the ends. -/
theorem pl_bd {x y k c M : Int} (hx : 0 ≤ x) (hx2 : x ≤ M) (hy : 0 ≤ y) (hy2 : y ≤ M) (hk : 0 ≤ k) (hk2 : k ≤ c) : 0 ≤ x * c + k * (y - x) ∧ x * c + k * (y - x) ≤ M * c := by
  have e : x * c + k * (y - x) = x * (c - k) + y * k := by
    rw [Int.mul_sub, Int.mul_sub, Int.mul_comm k y, Int.mul_comm k x]; omega
  have h1 := mul_bd (a := x) (b := c - k) hx hx2 (by omega) (Int.le_refl _)
  have h2 := mul_bd (a := y) (b := k) hy hy2 hk (Int.le_refl _)
  have e2 : M * c = M * (c - k) + M * k := by rw [Int.mul_sub]; omega
  omega

/-- Where one is after so many counts: the first k moves passed, n counts left. -/
def afTo (l : List Mv) (n : Int) : Option Sp × Int :=
  match l with
  | [] => (none, n)
  | m :: l => if n ≤ m.c then (some (rnd m n), n) else afTo l (n - m.c)
def afV (s : Sp) (L : List Rw) (n : Int) : Option Sp := match (afTo (mvs s L) n).1 with
  | some a => some a
  | none => if 0 < (afTo (mvs s L) n).2 then none else some s
end Go.Proofs.YtdmgffcabjpihaaGreatDoor
