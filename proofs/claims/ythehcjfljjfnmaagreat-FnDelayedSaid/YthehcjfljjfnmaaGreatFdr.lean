/-
  Plain mathematics: two moves with delays changed about, the square at a count, and moves that go at the same time.
-/
import Derived.Test.YthehcjfljjfnmaaGreatFdq
namespace Go.Proofs.YthehcjfljjfnmaaGreat
open Go.RowKit

theorem ptF_neg (x y z w : Int) : ptF (-x) (-y) (-z) (-w) = ptF x y z w := by
  have e1 : ptN (-x) (-y) (-z) (-w) = ptN x y z w := by unfold ptN; grind
  have e2 : ptD (-x) (-y) (-z) (-w) = ptD x y z w := by unfold ptD; grind
  have e3 : crs (-x) (-y) (-z) (-w) = crs x y z w := by unfold crs; grind
  unfold ptF
  rw [e1, e2, e3, Int.neg_mul_neg, Int.neg_mul_neg, Int.neg_mul_neg, Int.neg_mul_neg]
theorem spF_neg {X Y X' Y' : Nat → Int} (hX : ∀ k, X' k = - X k) (hY : ∀ k, Y' k = - Y k) : ∀ k, spF X' Y' k = spF X Y k
  | 0 => rfl
  | k + 1 => by rw [spF, spF, spF_neg hX hY k, hX, hX, hY, hY, ptF_neg]
theorem spF_same {X Y X' Y' : Nat → Int} (hX : ∀ k, X' k = X k) (hY : ∀ k, Y' k = Y k) : ∀ k, spF X' Y' k = spF X Y k
  | 0 => rfl
  | k + 1 => by rw [spF, spF, spF_same hX hY k, hX, hX, hY, hY]
/-- The moves may be changed about. -/
theorem ld_swap {a b : Mv} (h : b.c = a.c) (p q : Int) : ldN b a q p = ldN a b p q ∧ ldD b a q p = ldD a b p q := by
  have hX : ∀ k, xx b a q p k = - xx a b p q k := fun k => by unfold xx rlX; omega
  have hY : ∀ k, yy b a q p k = - yy a b p q k := fun k => by unfold yy rlY; omega
  have hK : cntK b q p = cntK a p q := by unfold cntK; omega
  have hS := spF_neg hX hY (cntK a p q)
  unfold ldN ldD
  rw [hK, hS, h]
  exact ⟨rfl, rfl⟩
/-- The least square is at most that at a count. -/
theorem ld_least {a b : Mv} {p q : Int} (ha : mvOk a) (p0 : 0 ≤ p) (q0 : 0 ≤ q) (hb : b.c = a.c) (k : Nat) : fLt (rlX a b p q k * rlX a b p q k + rlY a b p q k * rlY a b p q k, a.c * a.c) (ldN a b p q, ldD a b p q) = false := by
  obtain ⟨j, hj⟩ := cnt_pos (q := q) ha p0
  have hc := ha.2.2.1
  have hs := spF_ok (xx a b p q) (yy a b p q) j
  have hle : (spF (xx a b p q) (yy a b p q) (j + 1)).1 ≤ (rlX a b p q k * rlX a b p q k + rlY a b p q k * rlY a b p q k) * (spF (xx a b p q) (yy a b p q) (j + 1)).2 := by
    have key : ∀ m : Nat, m ≤ j + 1 → (spF (xx a b p q) (yy a b p q) (j + 1)).1 ≤ (xx a b p q m * xx a b p q m + yy a b p q m * yy a b p q m) * (spF (xx a b p q) (yy a b p q) (j + 1)).2 := by
      intro m hm
      by_cases h : (spF (xx a b p q) (yy a b p q) (j + 1)).1 ≤ (xx a b p q m * xx a b p q m + yy a b p q m * yy a b p q m) * (spF (xx a b p q) (yy a b p q) (j + 1)).2
      · exact h
      · exfalso
        have h1 : blq (xx a b p q m * xx a b p q m + yy a b p q m * yy a b p q m, 1) (spF (xx a b p q) (yy a b p q) (j + 1)).1 (spF (xx a b p q) (yy a b p q) (j + 1)).2 := by
          unfold blq; dsimp only; omega
        have h2 := blq_mono _ _ _ hs.2 (blq_here _ _ _ hs.2 m h1) (j + 1 - m)
        rw [show m + (j + 1 - m) = j + 1 by omega] at h2
        exact blq_self _ ((sq_im _ _ _ hs.2 j).2 h2)
    by_cases hk : k ≤ j + 1
    · exact key k hk
    · have hcl : clk a.c p k = clk a.c p (j + 1 : Nat) ∧ clk b.c q k = clk b.c q (j + 1 : Nat) := by
        have h1 : ((j + 1 : Nat) : Int) = a.c + max p q := by
          rw [← hj]; unfold cntK; omega
        unfold clk
        omega
      have h2 := key (j + 1) (Nat.le_refl _)
      unfold xx yy at h2
      have h3 : rlX a b p q k = rlX a b p q (j + 1 : Nat) := by unfold rlX; rw [hcl.1, hcl.2]
      have h4 : rlY a b p q k = rlY a b p q (j + 1 : Nat) := by unfold rlY; rw [hcl.1, hcl.2]
      rw [h3, h4]
      exact h2
  have hs2 := hs.2
  obtain ⟨g, hg, -, e1, e2, n1, n2, n3, n4⟩ := lw_facts hs.1 (cc_pos hs.2 hc)
  unfold ldN ldD fLt
  rw [hj]
  generalize spF (xx a b p q) (yy a b p q) (j + 1) = s at *
  generalize rlX a b p q k * rlX a b p q k + rlY a b p q k * rlY a b p q k = v at *
  refine decide_eq_false ?_
  dsimp only
  have h1 : lwN s.1 (s.2 * a.c * a.c) * (a.c * a.c) * g ≤ v * lwD s.1 (s.2 * a.c * a.c) * g := by
    have t1 : lwN s.1 (s.2 * a.c * a.c) * (a.c * a.c) * g = (lwN s.1 (s.2 * a.c * a.c) * g) * (a.c * a.c) := Int.mul_right_comm _ _ _
    have t2 : v * lwD s.1 (s.2 * a.c * a.c) * g = v * (lwD s.1 (s.2 * a.c * a.c) * g) := Int.mul_assoc _ _ _
    rw [t1, t2, e1, e2]
    have t3 : v * (s.2 * a.c * a.c) = v * s.2 * (a.c * a.c) := by grind
    rw [t3]
    exact Int.mul_le_mul_of_nonneg_right hle (sq_nonneg _)
  have := Int.le_of_mul_le_mul_right h1 hg
  omega
/-- Some point of the way from one place to another one lies nearer. -/
def onW (x y z w N D : Int) : Prop := ∃ i j : Int, 0 ≤ i ∧ i ≤ j ∧ 0 < j ∧ ((j * x + i * (z - x)) * (j * x + i * (z - x)) + (j * y + i * (w - y)) * (j * y + i * (w - y))) * D < N * (j * j)
theorem lt_scale {a b k : Int} (hk : 0 < k) : a * k < b * k ↔ a < b := ⟨fun h => Int.lt_of_mul_lt_mul_right h (by omega), fun h => Int.mul_lt_mul_of_pos_right h hk⟩
theorem onW_pt (x y z w N : Int) {D : Int} (hD : 0 < D) : blq (ptF x y z w) N D ↔ onW x y z w N D := by
  constructor
  · intro h
    by_cases hin : 0 < ptN x y z w ∧ ptN x y z w < ptD x y z w
    · rw [ptF_yes hin.1 hin.2] at h
      refine ⟨ptN x y z w, ptD x y z w, by omega, by omega, ptD_pos hin, ?_⟩
      have e : (ptD x y z w * x + ptN x y z w * (z - x)) * (ptD x y z w * x + ptN x y z w * (z - x)) + (ptD x y z w * y + ptN x y z w * (w - y)) * (ptD x y z w * y + ptN x y z w * (w - y)) = crs x y z w * crs x y z w * ptD x y z w := by
        unfold ptD ptN crs; grind
      rw [e]
      have h1 : crs x y z w * crs x y z w * D < N * ptD x y z w := h
      have h2 := (lt_scale (ptD_pos hin)).2 h1
      have e2 : crs x y z w * crs x y z w * ptD x y z w * D = crs x y z w * crs x y z w * D * ptD x y z w := Int.mul_right_comm _ _ _
      have e3 : N * (ptD x y z w * ptD x y z w) = N * ptD x y z w * ptD x y z w := (Int.mul_assoc _ _ _).symm
      omega
    · rw [ptF_no hin] at h
      have h1 : min (x * x + y * y) (z * z + w * w) * D < N * 1 := h
      rcases (min_lt hD).1 h1 with h2 | h2
      · exact ⟨0, 1, by omega, by omega, by omega, by
          have e : (1 * x + 0 * (z - x)) * (1 * x + 0 * (z - x)) + (1 * y + 0 * (w - y)) * (1 * y + 0 * (w - y)) = x * x + y * y := by grind
          rw [e]; exact h2⟩
      · exact ⟨1, 1, by omega, by omega, by omega, by
          have e : (1 * x + 1 * (z - x)) * (1 * x + 1 * (z - x)) + (1 * y + 1 * (w - y)) * (1 * y + 1 * (w - y)) = z * z + w * w := by grind
          rw [e]; exact h2⟩
  · rintro ⟨i, j, i0, ij, j0, h⟩
    have hjj : 0 < j * j := Int.mul_pos j0 j0
    by_cases hin : 0 < ptN x y z w ∧ ptN x y z w < ptD x y z w
    · rw [ptF_yes hin.1 hin.2]
      show crs x y z w * crs x y z w * D < N * ptD x y z w
      have hp := ptD_pos hin
      have e : ((j * x + i * (z - x)) * (j * x + i * (z - x)) + (j * y + i * (w - y)) * (j * y + i * (w - y))) * ptD x y z w = crs x y z w * crs x y z w * (j * j) + (i * ptD x y z w - j * ptN x y z w) * (i * ptD x y z w - j * ptN x y z w) := by
        unfold ptD ptN crs; grind
      have h2 := (lt_scale hp).2 h
      have h3 := sq_nonneg (i * ptD x y z w - j * ptN x y z w)
      refine (lt_scale hjj).1 ?_
      have e2 : ((j * x + i * (z - x)) * (j * x + i * (z - x)) + (j * y + i * (w - y)) * (j * y + i * (w - y))) * D * ptD x y z w = ((j * x + i * (z - x)) * (j * x + i * (z - x)) + (j * y + i * (w - y)) * (j * y + i * (w - y))) * ptD x y z w * D := Int.mul_right_comm _ _ _
      have e3 : N * ptD x y z w * (j * j) = N * (j * j) * ptD x y z w := Int.mul_right_comm _ _ _
      have e4 : crs x y z w * crs x y z w * D * (j * j) = crs x y z w * crs x y z w * (j * j) * D := Int.mul_right_comm _ _ _
      have h4 : crs x y z w * crs x y z w * (j * j) * D ≤ (crs x y z w * crs x y z w * (j * j) + (i * ptD x y z w - j * ptN x y z w) * (i * ptD x y z w - j * ptN x y z w)) * D := Int.mul_le_mul_of_nonneg_right (by omega) (by omega)
      rw [← e] at h4
      omega
    · rw [ptF_no hin]
      show min (x * x + y * y) (z * z + w * w) * D < N * 1
      have key : ∀ v : Int, v * (j * j) ≤ (j * x + i * (z - x)) * (j * x + i * (z - x)) + (j * y + i * (w - y)) * (j * y + i * (w - y)) → v * D < N * 1 := by
        intro v hv
        have h5 := Int.mul_le_mul_of_nonneg_right hv (Int.le_of_lt hD)
        refine (lt_scale hjj).1 ?_
        have e1 : v * D * (j * j) = v * (j * j) * D := Int.mul_right_comm _ _ _
        have e2 : N * 1 * (j * j) = N * (j * j) := by rw [Int.mul_one]
        omega
      have hs : 0 ≤ ptD x y z w := by have := sq_nonneg (z - x); have := sq_nonneg (w - y); unfold ptD; omega
      rw [min_lt hD]
      by_cases h1 : 0 < ptN x y z w
      · right
        refine key _ ?_
        have h2 : ptD x y z w ≤ ptN x y z w := by omega
        have e : (j * x + i * (z - x)) * (j * x + i * (z - x)) + (j * y + i * (w - y)) * (j * y + i * (w - y)) = (z * z + w * w) * (j * j) + (2 * (j * (j - i)) * (ptN x y z w - ptD x y z w) + (j - i) * (j - i) * ptD x y z w) := by
          unfold ptD ptN; grind
        have h3 : 0 ≤ 2 * (j * (j - i)) * (ptN x y z w - ptD x y z w) := Int.mul_nonneg (Int.mul_nonneg (by omega) (Int.mul_nonneg (by omega) (by omega))) (by omega)
        have h4 : 0 ≤ (j - i) * (j - i) * ptD x y z w := Int.mul_nonneg (sq_nonneg _) hs
        omega
      · left
        refine key _ ?_
        have e : (j * x + i * (z - x)) * (j * x + i * (z - x)) + (j * y + i * (w - y)) * (j * y + i * (w - y)) = (x * x + y * y) * (j * j) + (2 * (j * i) * (- ptN x y z w) + i * i * ptD x y z w) := by
          unfold ptD ptN; grind
        have h3 : 0 ≤ 2 * (j * i) * (- ptN x y z w) := Int.mul_nonneg (Int.mul_nonneg (by omega) (Int.mul_nonneg (by omega) (by omega))) (by omega)
        have h4 : 0 ≤ i * i * ptD x y z w := Int.mul_nonneg (sq_nonneg _) hs
        omega
theorem sp_some (X Y : Nat → Int) (N : Int) {D : Int} (hD : 0 < D) : ∀ k, blq (spF X Y (k + 1)) N D ↔ ∃ m : Nat, m ≤ k ∧ blq (ptF (X m) (Y m) (X (m + 1)) (Y (m + 1))) N D
  | 0 => by
    rw [spF_one]
    constructor
    · intro h; exact ⟨0, Nat.le_refl _, h⟩
    · rintro ⟨m, hm, h⟩
      obtain rfl : m = 0 := by omega
      exact h
  | k + 1 => by
    rw [sq_step _ hD, sp_some X Y N hD k]
    constructor
    · rintro (h | ⟨m, hm, h⟩)
      · exact ⟨k + 1, Nat.le_refl _, h⟩
      · exact ⟨m, by omega, h⟩
    · rintro ⟨m, hm, h⟩
      by_cases h2 : m = k + 1
      · subst h2; exact .inl h
      · exact .inr ⟨m, by omega, h⟩
/-- The least square of the whole ways (LeastApart). -/
def laF (a b : Mv) : Int × Int := ptF (a.f.x - b.f.x) (a.f.y - b.f.y) (a.t.x - b.t.x) (a.t.y - b.t.y)
theorem xx_at {a b : Mv} (h : b.c = a.c) (p : Int) (k : Nat) : xx a b p p k = (a.f.x - b.f.x) * a.c + ((a.t.x - b.t.x) - (a.f.x - b.f.x)) * clk a.c p k := by
  unfold xx rlX plX; rw [h]; grind
theorem yy_at {a b : Mv} (h : b.c = a.c) (p : Int) (k : Nat) : yy a b p p k = (a.f.y - b.f.y) * a.c + ((a.t.y - b.t.y) - (a.f.y - b.f.y)) * clk a.c p k := by
  unfold yy rlY plY; rw [h]; grind
theorem ln1 (c u v j i k : Int) : (j * c) * u + (j * k + i) * v - (j * (u * c + v * k) + i * ((u * c + v * (k + 1)) - (u * c + v * k))) = 0 := by grind
theorem ld_line {a b : Mv} (ha : mvOk a) (hb : b.c = a.c) {p : Int} (p0 : 0 ≤ p) (N : Int) {D : Int} (hD : 0 < D) : blq (spF (xx a b p p) (yy a b p p) (cntK a p p)) N D ↔ blq (laF a b) N (D * (a.c * a.c)) := by
  have hc := ha.2.2.1
  have hcc : 0 < a.c * a.c := Int.mul_pos (by omega) (by omega)
  obtain ⟨n, hn⟩ := cnt_pos (q := p) ha p0
  have hn2 : (n : Int) + 1 = a.c + p := by
    have : ((cntK a p p : Nat) : Int) = a.c + p := by unfold cntK; omega
    omega
  rw [hn, sp_some _ _ _ hD, laF, onW_pt _ _ _ _ _ (Int.mul_pos hD hcc)]
  simp only [onW_pt _ _ _ _ _ hD, xx_at hb, yy_at hb]
  generalize a.f.x - b.f.x = ux
  generalize a.f.y - b.f.y = uy
  generalize a.t.x - b.t.x = vx
  generalize a.t.y - b.t.y = vy
  generalize a.c = c at *
  constructor
  · rintro ⟨m, hm, i, j, i0, ij, j0, h⟩
    by_cases hw : (m : Int) < p
    · have e1 : clk c p m = 0 := by unfold clk; omega
      have e2 : clk c p (m + 1 : Nat) = 0 := by unfold clk; omega
      rw [e1, e2] at h
      refine ⟨0, j, by omega, by omega, j0, ?_⟩
      have t : (j * ux + 0 * (vx - ux)) * (j * ux + 0 * (vx - ux)) + (j * uy + 0 * (vy - uy)) * (j * uy + 0 * (vy - uy)) = (j * ux) * (j * ux) + (j * uy) * (j * uy) := by grind
      rw [t]
      have t2 : ((j * (ux * c + (vx - ux) * 0) + i * ((ux * c + (vx - ux) * 0) - (ux * c + (vx - ux) * 0))) * (j * (ux * c + (vx - ux) * 0) + i * ((ux * c + (vx - ux) * 0) - (ux * c + (vx - ux) * 0))) + (j * (uy * c + (vy - uy) * 0) + i * ((uy * c + (vy - uy) * 0) - (uy * c + (vy - uy) * 0))) * (j * (uy * c + (vy - uy) * 0) + i * ((uy * c + (vy - uy) * 0) - (uy * c + (vy - uy) * 0)))) * D = ((j * ux) * (j * ux) + (j * uy) * (j * uy)) * (D * (c * c)) := by grind
      rw [t2] at h
      exact h
    · obtain ⟨k, hk⟩ : ∃ k : Int, (m : Int) = p + k := ⟨m - p, by omega⟩
      have e1 : clk c p m = k := by unfold clk; omega
      have e2 : clk c p (m + 1 : Nat) = k + 1 := by unfold clk; omega
      rw [e1, e2] at h
      have hk1 : k + 1 ≤ c := by omega
      have hk0 : 0 ≤ k := by omega
      have hjk : 0 ≤ j * k := Int.mul_nonneg (by omega) hk0
      have hjc : j * (k + 1) ≤ j * c := Int.mul_le_mul_of_nonneg_left hk1 (by omega)
      have hje : j * (k + 1) = j * k + j := by grind
      refine ⟨j * k + i, j * c, by omega, by omega, Int.mul_pos j0 (by omega), ?_⟩
      have q1 : j * (ux * c + (vx - ux) * k) + i * ((ux * c + (vx - ux) * (k + 1)) - (ux * c + (vx - ux) * k)) = (j * c) * ux + (j * k + i) * (vx - ux) := by grind
      have q2 : j * (uy * c + (vy - uy) * k) + i * ((uy * c + (vy - uy) * (k + 1)) - (uy * c + (vy - uy) * k)) = (j * c) * uy + (j * k + i) * (vy - uy) := by grind
      rw [q1, q2] at h
      have h2 := (lt_scale hcc).2 h
      have t1 : (((j * c) * ux + (j * k + i) * (vx - ux)) * ((j * c) * ux + (j * k + i) * (vx - ux)) + ((j * c) * uy + (j * k + i) * (vy - uy)) * ((j * c) * uy + (j * k + i) * (vy - uy))) * D * (c * c) = (((j * c) * ux + (j * k + i) * (vx - ux)) * ((j * c) * ux + (j * k + i) * (vx - ux)) + ((j * c) * uy + (j * k + i) * (vy - uy)) * ((j * c) * uy + (j * k + i) * (vy - uy))) * (D * (c * c)) := Int.mul_assoc _ _ _
      have t2 : N * (j * j) * (c * c) = N * ((j * c) * (j * c)) := by grind
      omega
  · rintro ⟨i, j, i0, ij, j0, h⟩
    obtain ⟨k, r, hk0, hk1, hr0, hr1, he⟩ : ∃ k r : Int, 0 ≤ k ∧ k + 1 ≤ c ∧ 0 ≤ r ∧ r ≤ j ∧ c * i = k * j + r := by
      by_cases hij : i = j
      · exact ⟨c - 1, j, by omega, by omega, by omega, Int.le_refl _, by subst hij; grind⟩
      · refine ⟨c * i / j, c * i % j, Int.ediv_nonneg (Int.mul_nonneg (by omega) i0) (by omega), ?_, Int.emod_nonneg _ (by omega), Int.le_of_lt (Int.emod_lt_of_pos _ j0), ?_⟩
        · have h1 : c * i < c * j := Int.mul_lt_mul_of_pos_left (by omega) (by omega)
          have := Int.ediv_lt_of_lt_mul j0 h1
          omega
        · have := Int.ediv_mul_add_emod (c * i) j
          omega
    refine ⟨(p + k).toNat, by omega, r, j, hr0, hr1, j0, ?_⟩
    have e1 : clk c p (p + k).toNat = k := by unfold clk; omega
    have e2 : clk c p ((p + k).toNat + 1 : Nat) = k + 1 := by unfold clk; omega
    rw [e1, e2]
    have q (u v : Int) : j * (u * c + (v - u) * k) + r * ((u * c + (v - u) * (k + 1)) - (u * c + (v - u) * k)) = c * (j * u + i * (v - u)) := by
      have : c * (j * u + i * (v - u)) = c * j * u + (c * i) * (v - u) := by grind
      rw [this, he]; grind
    rw [q, q]
    have t : (c * (j * ux + i * (vx - ux)) * (c * (j * ux + i * (vx - ux))) + c * (j * uy + i * (vy - uy)) * (c * (j * uy + i * (vy - uy)))) * D = ((j * ux + i * (vx - ux)) * (j * ux + i * (vx - ux)) + (j * uy + i * (vy - uy)) * (j * uy + i * (vy - uy))) * (D * (c * c)) := by grind
    rw [t]
    exact h
/-- Without a difference of delays the least square is that of the whole ways. -/
theorem ld_apart {a b : Mv} (ha : mvOk a) (hb : b.c = a.c) {p : Int} (p0 : 0 ≤ p) : ldN a b p p = lwN (laF a b).1 (laF a b).2 ∧ ldD a b p p = lwD (laF a b).1 (laF a b).2 := by
  have hc := ha.2.2.1
  have hcc : 0 < a.c * a.c := Int.mul_pos (by omega) (by omega)
  obtain ⟨n, hn⟩ := cnt_pos (q := p) ha p0
  have hs := spF_ok (xx a b p p) (yy a b p p) n
  have h0 := fun N D hD => ld_line ha hb p0 N (D := D) hD
  rw [hn] at h0
  have hl : fOk (laF a b) := ptF_ok _ _ _ _
  unfold ldN ldD
  rw [hn]
  refine lw_same hs.1 (cc_pos hs.2 hc) hl.1 hl.2 ?_
  have h1 := h0 ((laF a b).1 * (a.c * a.c)) (laF a b).2 hl.2
  have h2 := h0 (spF (xx a b p p) (yy a b p p) (n + 1)).1 (spF (xx a b p p) (yy a b p p) (n + 1)).2 hs.2
  have h3 : ¬ blq (laF a b) ((laF a b).1 * (a.c * a.c)) ((laF a b).2 * (a.c * a.c)) := by
    unfold blq
    have : (laF a b).1 * ((laF a b).2 * (a.c * a.c)) = (laF a b).1 * (a.c * a.c) * (laF a b).2 := by grind
    omega
  have h4 : ¬ blq (spF (xx a b p p) (yy a b p p) (n + 1)) (spF (xx a b p p) (yy a b p p) (n + 1)).1 (spF (xx a b p p) (yy a b p p) (n + 1)).2 := blq_self _
  have h5 : ¬ (spF (xx a b p p) (yy a b p p) (n + 1)).1 * (laF a b).2 < (laF a b).1 * (a.c * a.c) * (spF (xx a b p p) (yy a b p p) (n + 1)).2 := fun h => h3 (h1.1 h)
  have h6 : ¬ (laF a b).1 * ((spF (xx a b p p) (yy a b p p) (n + 1)).2 * (a.c * a.c)) < (spF (xx a b p p) (yy a b p p) (n + 1)).1 * (laF a b).2 := fun h => h4 (h2.2 h)
  generalize spF (xx a b p p) (yy a b p p) (n + 1) = s at *
  generalize laF a b = f at *
  have e1 : f.1 * (a.c * a.c) * s.2 = f.1 * (s.2 * a.c * a.c) := by grind
  have e2 : f.1 * (s.2 * (a.c * a.c)) = f.1 * (s.2 * a.c * a.c) := by grind
  omega
end Go.Proofs.YthehcjfljjfnmaaGreat
