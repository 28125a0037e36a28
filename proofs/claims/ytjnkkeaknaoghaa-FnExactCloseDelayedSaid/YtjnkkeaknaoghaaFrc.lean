/-
  Plain mathematics: two moves with delays, the least square of their way, as two programs reckon it; both say the same of a threshold.
-/
import Derived.Test.YtjnkkeaknaoghaaMov
namespace Go.Proofs.Ytjnkkeaknaoghaa
open Go.RowKit

/-- A move's place (times its counts) after c of its counts. -/
def plX (m : Mv) (c : Int) : Int := m.f.x * m.c + (m.t.x - m.f.x) * c
def plY (m : Mv) (c : Int) : Int := m.f.y * m.c + (m.t.y - m.f.y) * c
/-- How far a move with a delay has come. -/
def clk (n d c : Int) : Int := max 0 (min n (c - d))
def rlX (a b : Mv) (p q c : Int) : Int := plX a (clk a.c p c) - plX b (clk b.c q c)
def rlY (a b : Mv) (p q c : Int) : Int := plY a (clk a.c p c) - plY b (clk b.c q c)
def crs (x y z w : Int) : Int := x * w - y * z
/-- The part of the reference. -/
def ptN (x y z w : Int) : Int := -(x * (z - x) + y * (w - y))
def ptD (x y z w : Int) : Int := (z - x) * (z - x) + (w - y) * (w - y)
def ptF (x y z w : Int) : Int × Int :=
  if 0 < ptN x y z w ∧ ptN x y z w < ptD x y z w then (crs x y z w * crs x y z w, ptD x y z w) else (min (x * x + y * y) (z * z + w * w), 1)
def stF (x y z w : Int) : Int × Int :=
  if 0 < ptN x y z w ∧ ptN x y z w < ptD x y z w then (crs x y z w * crs x y z w, ptD x y z w) else (z * z + w * w, 1)
def fLt (f g : Int × Int) : Bool := decide (f.1 * g.2 < g.1 * f.2)
def spF (X Y : Nat → Int) : Nat → Int × Int
  | 0 => (-1, 1)
  | k + 1 => if (spF X Y k).1 < 0 ∨ fLt (ptF (X k) (Y k) (X (k + 1)) (Y (k + 1))) (spF X Y k) = true then ptF (X k) (Y k) (X (k + 1)) (Y (k + 1)) else spF X Y k
def imF (X Y : Nat → Int) : Nat → Int × Int
  | 0 => (X 0 * X 0 + Y 0 * Y 0, 1)
  | k + 1 => if fLt (stF (X k) (Y k) (X (k + 1)) (Y (k + 1))) (imF X Y k) = true then stF (X k) (Y k) (X (k + 1)) (Y (k + 1)) else imF X Y k

theorem sq_nonneg (a : Int) : 0 ≤ a * a := by
  rcases Int.le_total 0 a with h | h
  · exact Int.mul_nonneg h h
  · exact Int.mul_nonneg_of_nonpos_of_nonpos h h
theorem ptD_pos {x y z w : Int} (h : 0 < ptN x y z w ∧ ptN x y z w < ptD x y z w) : 0 < ptD x y z w := by omega
def fOk (f : Int × Int) : Prop := 0 ≤ f.1 ∧ 0 < f.2
theorem ptF_ok (x y z w : Int) : fOk (ptF x y z w) := by
  unfold ptF fOk
  split
  · rename_i h; exact ⟨sq_nonneg _, ptD_pos h⟩
  · have := sq_nonneg x; have := sq_nonneg y; have := sq_nonneg z; have := sq_nonneg w
    refine ⟨?_, Int.zero_lt_one⟩
    show 0 ≤ min _ _
    omega
theorem stF_ok (x y z w : Int) : fOk (stF x y z w) := by
  unfold stF fOk
  split
  · rename_i h; exact ⟨sq_nonneg _, ptD_pos h⟩
  · have := sq_nonneg z; have := sq_nonneg w
    refine ⟨?_, Int.zero_lt_one⟩
    show 0 ≤ _ + _
    omega
theorem spF_ok (X Y : Nat → Int) : ∀ k, fOk (spF X Y (k + 1))
  | 0 => by rw [spF, if_pos (.inl (by simp [spF]))]; exact ptF_ok _ _ _ _
  | k + 1 => by
    rw [spF]; split
    · exact ptF_ok _ _ _ _
    · exact spF_ok X Y k
theorem spF_pos (X Y : Nat → Int) : ∀ k, 0 < (spF X Y k).2
  | 0 => Int.zero_lt_one
  | k + 1 => (spF_ok X Y k).2
theorem imF_ok (X Y : Nat → Int) : ∀ k, fOk (imF X Y k)
  | 0 => by have := sq_nonneg (X 0); have := sq_nonneg (Y 0); exact ⟨by show 0 ≤ _ + _; omega, Int.zero_lt_one⟩
  | k + 1 => by
    rw [imF]; split
    · exact stF_ok _ _ _ _
    · exact imF_ok X Y k
/-- A fraction lies below a threshold. -/
def bel_ (f : Int × Int) (M : Int) : Prop := f.1 < M * f.2
theorem bel_min {f g : Int × Int} (hf : fOk f) (hg : fOk g) (M : Int) : bel_ (if fLt f g = true then f else g) M ↔ bel_ f M ∨ bel_ g M := by
  obtain ⟨hf1, hf2⟩ := hf
  obtain ⟨hg1, hg2⟩ := hg
  by_cases h : fLt f g = true
  · rw [if_pos h]
    refine ⟨.inl, fun h2 => ?_⟩
    rcases h2 with h2 | h2
    · exact h2
    · have h3 : f.1 * g.2 < g.1 * f.2 := by simpa [fLt] using h
      have h4 : g.1 * f.2 < M * g.2 * f.2 := Int.mul_lt_mul_of_pos_right h2 hf2
      have h5 : f.1 * g.2 < (M * f.2) * g.2 := by
        have : M * g.2 * f.2 = (M * f.2) * g.2 := by rw [Int.mul_right_comm]
        omega
      exact Int.lt_of_mul_lt_mul_right h5 (by omega)
  · rw [if_neg h]
    refine ⟨.inr, fun h2 => ?_⟩
    rcases h2 with h2 | h2
    · have h3 : g.1 * f.2 ≤ f.1 * g.2 := by simpa [fLt] using h
      have h4 : f.1 * g.2 < M * f.2 * g.2 := Int.mul_lt_mul_of_pos_right h2 hg2
      have h5 : g.1 * f.2 < (M * g.2) * f.2 := by
        have : M * f.2 * g.2 = (M * g.2) * f.2 := by rw [Int.mul_right_comm]
        omega
      exact Int.lt_of_mul_lt_mul_right h5 (by omega)
    · exact h2
theorem bel_pt (x y z w M : Int) : bel_ (ptF x y z w) M ↔ bel_ (stF x y z w) M ∨ (¬ (0 < ptN x y z w ∧ ptN x y z w < ptD x y z w) ∧ bel_ (x * x + y * y, 1) M) := by
  unfold ptF stF
  by_cases h : 0 < ptN x y z w ∧ ptN x y z w < ptD x y z w
  · simp [h]
  · simp only [h, if_false, not_false_eq_true, true_and]
    simp only [bel_]
    omega
/-- The end of a step lies below a threshold only where the step does. -/
theorem bel_end (x y z w M : Int) (h : bel_ (z * z + w * w, 1) M) : bel_ (stF x y z w) M := by
  unfold stF
  split
  · rename_i h1
    have hd := ptD_pos h1
    have hz : z * z + w * w < M := by simpa [bel_] using h
    show crs x y z w * crs x y z w < M * ptD x y z w
    have e : crs x y z w * crs x y z w = (z * z + w * w) * ptD x y z w - (z * (z - x) + w * (w - y)) * (z * (z - x) + w * (w - y)) := by
      unfold crs ptD; grind
    have h2 := sq_nonneg (z * (z - x) + w * (w - y))
    have h3 : (z * z + w * w) * ptD x y z w < M * ptD x y z w := Int.mul_lt_mul_of_pos_right hz hd
    omega
  · exact h
theorem bel_here (X Y : Nat → Int) (M : Int) : ∀ k, bel_ (X k * X k + Y k * Y k, 1) M → bel_ (imF X Y k) M
  | 0, h => h
  | k + 1, h => by
    rw [imF, bel_min (stF_ok _ _ _ _) (imF_ok X Y k)]
    exact .inl (bel_end _ _ _ _ _ h)
theorem spF_step {X Y : Nat → Int} {k : Nat} (M : Int) : bel_ (spF X Y (k + 2)) M ↔ bel_ (ptF (X (k + 1)) (Y (k + 1)) (X (k + 2)) (Y (k + 2))) M ∨ bel_ (spF X Y (k + 1)) M := by
  have h0 := spF_ok X Y k
  rw [← bel_min (ptF_ok _ _ _ _) h0]
  have e : spF X Y (k + 2) = if fLt (ptF (X (k + 1)) (Y (k + 1)) (X (k + 2)) (Y (k + 2))) (spF X Y (k + 1)) = true then ptF (X (k + 1)) (Y (k + 1)) (X (k + 2)) (Y (k + 2)) else spF X Y (k + 1) := by
    rw [spF]
    have : ¬ (spF X Y (k + 1)).1 < 0 := by have := h0.1; omega
    simp only [this, false_or]
  rw [e]
theorem spF_one {X Y : Nat → Int} : spF X Y 1 = ptF (X 0) (Y 0) (X 1) (Y 1) := by rw [spF, if_pos (.inl (by simp [spF]))]
/-- Both say the same of a threshold. -/
theorem sp_im (X Y : Nat → Int) (M : Int) : ∀ k, bel_ (spF X Y (k + 1)) M ↔ bel_ (imF X Y (k + 1)) M
  | 0 => by
    rw [spF_one, imF, bel_min (stF_ok _ _ _ _) (imF_ok X Y 0), bel_pt]
    constructor
    · rintro (h | ⟨_, h⟩)
      · exact .inl h
      · exact .inr h
    · rintro (h | h)
      · exact .inl h
      · by_cases h2 : 0 < ptN (X 0) (Y 0) (X 1) (Y 1) ∧ ptN (X 0) (Y 0) (X 1) (Y 1) < ptD (X 0) (Y 0) (X 1) (Y 1)
        · left
          have hd := ptD_pos h2
          unfold stF
          rw [if_pos h2]
          show crs _ _ _ _ * crs _ _ _ _ < M * ptD _ _ _ _
          have hz : X 0 * X 0 + Y 0 * Y 0 < M := by simpa [bel_, imF] using h
          have e : crs (X 0) (Y 0) (X 1) (Y 1) * crs (X 0) (Y 0) (X 1) (Y 1) = (X 0 * X 0 + Y 0 * Y 0) * ptD (X 0) (Y 0) (X 1) (Y 1) - (X 0 * (X 1 - X 0) + Y 0 * (Y 1 - Y 0)) * (X 0 * (X 1 - X 0) + Y 0 * (Y 1 - Y 0)) := by
            unfold crs ptD; grind
          have h4 := sq_nonneg (X 0 * (X 1 - X 0) + Y 0 * (Y 1 - Y 0))
          have h3 : (X 0 * X 0 + Y 0 * Y 0) * ptD (X 0) (Y 0) (X 1) (Y 1) < M * ptD (X 0) (Y 0) (X 1) (Y 1) := Int.mul_lt_mul_of_pos_right hz hd
          omega
        · exact .inr ⟨h2, h⟩
  | k + 1 => by
    rw [spF_step, imF, bel_min (stF_ok _ _ _ _) (imF_ok X Y (k + 1)), bel_pt, sp_im X Y M k]
    constructor
    · rintro ((h | ⟨_, h⟩) | h)
      · exact .inl h
      · exact .inr (bel_here X Y M (k + 1) h)
      · exact .inr h
    · rintro (h | h)
      · exact .inl (.inl h)
      · exact .inr h
end Go.Proofs.Ytjnkkeaknaoghaa
