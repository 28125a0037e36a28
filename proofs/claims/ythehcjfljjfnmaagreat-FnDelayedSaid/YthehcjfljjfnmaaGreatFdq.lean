/-
  Plain mathematics: the least square of two moves with delays as a fraction; it is the same by both reckonings, with the moves changed about, at most the square at each count, and without a difference of delays that of the whole ways.
-/
import Derived.Test.YthehcjfljjfnmaaGreatDei
namespace Go.Proofs.YthehcjfljjfnmaaGreat
open Go.RowKit

/-- A fraction lies below another one. -/
def blq (f : Int × Int) (N D : Int) : Prop := f.1 * D < N * f.2
theorem blq_lt {f g : Int × Int} (hf : fOk f) (hg : fOk g) {N D : Int} (hD : 0 < D) (h : f.1 * g.2 ≤ g.1 * f.2) (h2 : blq g N D) : blq f N D := by
  have h3 : f.1 * g.2 * D ≤ g.1 * f.2 * D := Int.mul_le_mul_of_nonneg_right h (by omega)
  have h4 : g.1 * D * f.2 < N * g.2 * f.2 := Int.mul_lt_mul_of_pos_right h2 hf.2
  have h5 : (f.1 * D) * g.2 < (N * f.2) * g.2 := by
    have e1 : f.1 * D * g.2 = f.1 * g.2 * D := Int.mul_right_comm _ _ _
    have e2 : N * f.2 * g.2 = N * g.2 * f.2 := Int.mul_right_comm _ _ _
    have e3 : g.1 * f.2 * D = g.1 * D * f.2 := Int.mul_right_comm _ _ _
    omega
  exact Int.lt_of_mul_lt_mul_right h5 (by have := hg.2; omega)
theorem blq_min {f g : Int × Int} (hf : fOk f) (hg : fOk g) {N D : Int} (hD : 0 < D) : blq (if fLt f g = true then f else g) N D ↔ blq f N D ∨ blq g N D := by
  by_cases h : fLt f g = true
  · rw [if_pos h]
    refine ⟨.inl, fun h2 => ?_⟩
    rcases h2 with h2 | h2
    · exact h2
    · exact blq_lt hf hg hD (by have h3 : f.1 * g.2 < g.1 * f.2 := by simpa [fLt] using h
                                omega) h2
  · rw [if_neg h]
    refine ⟨.inr, fun h2 => ?_⟩
    rcases h2 with h2 | h2
    · exact blq_lt hg hf hD (by simpa [fLt] using h) h2
    · exact h2
theorem min_lt {a b N D : Int} (hD : 0 < D) : min a b * D < N * 1 ↔ a * D < N * 1 ∨ b * D < N * 1 := by
  rcases Int.le_total a b with h | h
  · have := Int.mul_le_mul_of_nonneg_right h (Int.le_of_lt hD)
    rw [show min a b = a by omega]; omega
  · have := Int.mul_le_mul_of_nonneg_right h (Int.le_of_lt hD)
    rw [show min a b = b by omega]; omega
theorem blq_pt (x y z w N : Int) {D : Int} (hD : 0 < D) : blq (ptF x y z w) N D ↔ blq (stF x y z w) N D ∨ (¬ (0 < ptN x y z w ∧ ptN x y z w < ptD x y z w) ∧ blq (x * x + y * y, 1) N D) := by
  unfold ptF stF
  by_cases h : 0 < ptN x y z w ∧ ptN x y z w < ptD x y z w
  · simp [h]
  · simp only [h, if_false, not_false_eq_true, true_and]
    simp only [blq]
    rw [min_lt hD]
    exact ⟨Or.symm, Or.symm⟩
theorem crs_end (x y z w : Int) : crs x y z w * crs x y z w = (z * z + w * w) * ptD x y z w - (z * (z - x) + w * (w - y)) * (z * (z - x) + w * (w - y)) := by
  unfold crs ptD; grind
theorem crs_beg (x y z w : Int) : crs x y z w * crs x y z w = (x * x + y * y) * ptD x y z w - (x * (z - x) + y * (w - y)) * (x * (z - x) + y * (w - y)) := by
  unfold crs ptD; grind
theorem crs_le (x y z w : Int) : crs x y z w * crs x y z w ≤ (z * z + w * w) * ptD x y z w ∧ crs x y z w * crs x y z w ≤ (x * x + y * y) * ptD x y z w := by
  have h1 := crs_end x y z w
  have h2 := crs_beg x y z w
  have h3 := sq_nonneg (z * (z - x) + w * (w - y))
  have h4 := sq_nonneg (x * (z - x) + y * (w - y))
  omega
theorem one_ok {x y : Int} : fOk (x * x + y * y, 1) := ⟨by have := sq_nonneg x; have := sq_nonneg y; show 0 ≤ _ + _; omega, Int.zero_lt_one⟩
theorem blq_end (x y z w N : Int) {D : Int} (hD : 0 < D) (h : blq (z * z + w * w, 1) N D) : blq (stF x y z w) N D := by
  refine blq_lt (stF_ok _ _ _ _) one_ok hD ?_ h
  unfold stF
  split
  · show crs x y z w * crs x y z w * 1 ≤ (z * z + w * w) * ptD x y z w
    have := (crs_le x y z w).1
    omega
  · exact Int.le_refl _
theorem blq_here (X Y : Nat → Int) (N : Int) {D : Int} (hD : 0 < D) : ∀ k, blq (X k * X k + Y k * Y k, 1) N D → blq (imF X Y k) N D
  | 0, h => h
  | k + 1, h => by
    rw [imF, blq_min (stF_ok _ _ _ _) (imF_ok X Y k) hD]
    exact .inl (blq_end _ _ _ _ _ hD h)
theorem blq_mono (X Y : Nat → Int) (N : Int) {D : Int} (hD : 0 < D) {k : Nat} (h : blq (imF X Y k) N D) : ∀ j, blq (imF X Y (k + j)) N D
  | 0 => h
  | j + 1 => by
    rw [show k + (j + 1) = k + j + 1 by omega, imF, blq_min (stF_ok _ _ _ _) (imF_ok X Y _) hD]
    exact .inr (blq_mono X Y N hD h j)
theorem sq_step {X Y : Nat → Int} {k : Nat} (N : Int) {D : Int} (hD : 0 < D) : blq (spF X Y (k + 2)) N D ↔ blq (ptF (X (k + 1)) (Y (k + 1)) (X (k + 2)) (Y (k + 2))) N D ∨ blq (spF X Y (k + 1)) N D := by
  have h0 := spF_ok X Y k
  rw [← blq_min (ptF_ok _ _ _ _) h0 hD]
  have e : spF X Y (k + 2) = if fLt (ptF (X (k + 1)) (Y (k + 1)) (X (k + 2)) (Y (k + 2))) (spF X Y (k + 1)) = true then ptF (X (k + 1)) (Y (k + 1)) (X (k + 2)) (Y (k + 2)) else spF X Y (k + 1) := by
    rw [spF]
    have : ¬ (spF X Y (k + 1)).1 < 0 := by have := h0.1; omega
    simp only [this, false_or]
  rw [e]
theorem sq_im (X Y : Nat → Int) (N : Int) {D : Int} (hD : 0 < D) : ∀ k, blq (spF X Y (k + 1)) N D ↔ blq (imF X Y (k + 1)) N D
  | 0 => by
    rw [spF_one, imF, blq_min (stF_ok _ _ _ _) (imF_ok X Y 0) hD, blq_pt _ _ _ _ _ hD]
    constructor
    · rintro (h | ⟨_, h⟩)
      · exact .inl h
      · exact .inr h
    · rintro (h | h)
      · exact .inl h
      · by_cases h2 : 0 < ptN (X 0) (Y 0) (X 1) (Y 1) ∧ ptN (X 0) (Y 0) (X 1) (Y 1) < ptD (X 0) (Y 0) (X 1) (Y 1)
        · left
          refine blq_lt (stF_ok _ _ _ _) one_ok hD ?_ h
          unfold stF
          rw [if_pos h2]
          show crs (X 0) (Y 0) (X 1) (Y 1) * crs (X 0) (Y 0) (X 1) (Y 1) * 1 ≤ (X 0 * X 0 + Y 0 * Y 0) * ptD (X 0) (Y 0) (X 1) (Y 1)
          have := (crs_le (X 0) (Y 0) (X 1) (Y 1)).2
          omega
        · exact .inr ⟨h2, h⟩
  | k + 1 => by
    rw [sq_step _ hD, imF, blq_min (stF_ok _ _ _ _) (imF_ok X Y (k + 1)) hD, blq_pt _ _ _ _ _ hD, sq_im X Y N hD k]
    constructor
    · rintro ((h | ⟨_, h⟩) | h)
      · exact .inl h
      · exact .inr (blq_here X Y N hD (k + 1) h)
      · exact .inr h
    · rintro (h | h)
      · exact .inl (.inl h)
      · exact .inr h
theorem blq_self (f : Int × Int) : ¬ blq f f.1 f.2 := fun h => Int.lt_irrefl _ h
/-- Both reckon the same fraction. -/
theorem sp_im_eq (X Y : Nat → Int) (k : Nat) : (spF X Y (k + 1)).1 * (imF X Y (k + 1)).2 = (imF X Y (k + 1)).1 * (spF X Y (k + 1)).2 := by
  have h1 := sq_im X Y (imF X Y (k + 1)).1 (imF_ok X Y (k + 1)).2 k
  have h2 := sq_im X Y (spF X Y (k + 1)).1 (spF_ok X Y k).2 k
  have h3 := blq_self (imF X Y (k + 1))
  have h4 := blq_self (spF X Y (k + 1))
  have h5 : ¬ blq (spF X Y (k + 1)) (imF X Y (k + 1)).1 (imF X Y (k + 1)).2 := fun h => h3 (h1.1 h)
  have h6 : ¬ blq (imF X Y (k + 1)) (spF X Y (k + 1)).1 (spF X Y (k + 1)).2 := fun h => h4 (h2.2 h)
  unfold blq at h5 h6
  omega
/-- Lowest terms are the same for equal fractions. -/
theorem lw_scale {a b k : Int} (ha : 0 ≤ a) (hb : 0 < b) (hk : 0 < k) : lwN (a * k) (b * k) = lwN a b ∧ lwD (a * k) (b * k) = lwD a b := by
  have e : ((Nat.gcd (a * k).toNat (b * k).toNat : Nat) : Int) = (Nat.gcd a.toNat b.toNat : Int) * k := by
    obtain ⟨a, rfl⟩ := Int.eq_ofNat_of_zero_le ha
    obtain ⟨b, rfl⟩ := Int.eq_ofNat_of_zero_le (Int.le_of_lt hb)
    obtain ⟨k, rfl⟩ := Int.eq_ofNat_of_zero_le (Int.le_of_lt hk)
    rw [← Int.natCast_mul, ← Int.natCast_mul, Int.toNat_natCast, Int.toNat_natCast, Int.toNat_natCast, Int.toNat_natCast, Nat.gcd_mul_right, Int.natCast_mul]
  unfold lwN lwD
  rw [e]
  exact ⟨Int.mul_ediv_mul_of_pos_left _ _ hk, Int.mul_ediv_mul_of_pos_left _ _ hk⟩
theorem lw_same {a b c d : Int} (ha : 0 ≤ a) (hb : 0 < b) (hc : 0 ≤ c) (hd : 0 < d) (h : a * d = c * b) : lwN a b = lwN c d ∧ lwD a b = lwD c d := by
  have h1 := lw_scale ha hb hd
  have h2 := lw_scale hc hd hb
  rw [h, Int.mul_comm b d] at h1
  exact ⟨h1.1.symm.trans h2.1, h1.2.symm.trans h2.2⟩
theorem lw_one {a : Int} (ha : 0 ≤ a) : lwN a 1 = a ∧ lwD a 1 = 1 := by
  have e : Nat.gcd a.toNat (1 : Int).toNat = 1 := Nat.gcd_one_right _
  unfold lwN lwD
  rw [e]
  exact ⟨Int.ediv_one _, Int.ediv_one _⟩
/-- What LeastDelayed answers. -/
def ldN (a b : Mv) (p q : Int) : Int := lwN (spF (xx a b p q) (yy a b p q) (cntK a p q)).1 ((spF (xx a b p q) (yy a b p q) (cntK a p q)).2 * a.c * a.c)
def ldD (a b : Mv) (p q : Int) : Int := lwD (spF (xx a b p q) (yy a b p q) (cntK a p q)).1 ((spF (xx a b p q) (yy a b p q) (cntK a p q)).2 * a.c * a.c)
theorem cc_pos {u c : Int} (hu : 0 < u) (hc : 1 ≤ c) : 0 < u * c * c := Int.mul_pos (Int.mul_pos hu (by omega)) (by omega)
theorem ld_im {a b : Mv} {p q t u : Int} (ha : mvOk a) (p0 : 0 ≤ p) (h : imF (xx a b p q) (yy a b p q) (cntK a p q) = (t, u)) : lwN (lwN t u) (lwD t u * a.c * a.c) = ldN a b p q ∧ lwD (lwN t u) (lwD t u * a.c * a.c) = ldD a b p q := by
  obtain ⟨j, hj⟩ := cnt_pos (q := q) ha p0
  have hc := ha.2.2.1
  have ho := imF_ok (xx a b p q) (yy a b p q) (cntK a p q)
  have hs := spF_ok (xx a b p q) (yy a b p q) j
  have he := sp_im_eq (xx a b p q) (yy a b p q) j
  rw [← hj] at hs he
  rw [h] at ho he
  obtain ⟨g, hg, -, e1, e2, n1, n2, n3, n4⟩ := lw_facts ho.1 ho.2
  refine lw_same n1 (cc_pos n3 hc) hs.1 (cc_pos hs.2 hc) ?_
  generalize spF (xx a b p q) (yy a b p q) (cntK a p q) = s at *
  dsimp only at he e1 e2
  have h1 : (lwN t u * (s.2 * a.c * a.c)) * g = (s.1 * (lwD t u * a.c * a.c)) * g := by
    have : (lwN t u * (s.2 * a.c * a.c)) * g = (lwN t u * g) * s.2 * (a.c * a.c) := by grind
    rw [this, e1, ← he]
    have : s.1 * (lwD t u * a.c * a.c) * g = s.1 * (lwD t u * g) * (a.c * a.c) := by grind
    rw [this, e2]
  exact Int.eq_of_mul_eq_mul_right (by omega) h1
theorem ld_pos {a b : Mv} {p q : Int} (ha : mvOk a) (p0 : 0 ≤ p) : 0 ≤ ldN a b p q ∧ 0 < ldD a b p q := by
  obtain ⟨j, hj⟩ := cnt_pos (q := q) ha p0
  have hs := spF_ok (xx a b p q) (yy a b p q) j
  rw [← hj] at hs
  obtain ⟨g, hg, -, e1, e2, n1, n2, n3, n4⟩ := lw_facts hs.1 (cc_pos hs.2 ha.2.2.1)
  exact ⟨n1, n3⟩
end Go.Proofs.YthehcjfljjfnmaaGreat
