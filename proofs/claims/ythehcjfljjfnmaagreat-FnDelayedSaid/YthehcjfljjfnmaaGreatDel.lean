/-
  Contracts: places with delays, parts of ways, fractions.
-/
import Derived.Test.YthehcjfljjfnmaaGreatBase
import Derived.Deep.RegionHeld3
import Derived.Lib.QuietBelow
namespace Go.Proofs.YthehcjfljjfnmaaGreat
open Go.RowKit Go.Sort

def mvOk (m : Mv) : Prop := isSp m.f = true ∧ isSp m.t = true ∧ 1 ≤ m.c ∧ m.c ≤ 16
theorem mul_bd {a b A B : Int} (h0 : 0 ≤ a) (h1 : a ≤ A) (h2 : 0 ≤ b) (h3 : b ≤ B) : 0 ≤ a * b ∧ a * b ≤ A * B :=
  ⟨Int.mul_nonneg h0 h2, Int.mul_le_mul h1 h3 h2 (by omega)⟩
theorem mul_bd2 {a b A B : Int} (h0 : -A ≤ a) (h1 : a ≤ A) (h2 : -B ≤ b) (h3 : b ≤ B) : -(A * B) ≤ a * b ∧ a * b ≤ A * B := by
  have hA : 0 ≤ A := by omega
  have hB : 0 ≤ B := by omega
  rcases Int.le_total 0 a with h | h <;> rcases Int.le_total 0 b with k | k
  · have := mul_bd h h1 k h3; omega
  · have := mul_bd (b := -b) h h1 (by omega) (by omega : -b ≤ B)
    rw [Int.mul_neg] at this; omega
  · have := mul_bd (a := -a) (by omega) (by omega : -a ≤ A) k h3
    rw [Int.neg_mul] at this; omega
  · have := mul_bd (a := -a) (b := -b) (by omega) (by omega : -a ≤ A) (by omega) (by omega : -b ≤ B)
    rw [Int.neg_mul_neg] at this; omega
theorem way_bd {a b n k M : Int} (a0 : 0 ≤ a) (a1 : a ≤ M) (b0 : 0 ≤ b) (b1 : b ≤ M) (n1 : n ≤ 16) (k0 : 0 ≤ k) (k1 : k ≤ n) :
    (0 ≤ a * n ∧ a * n ≤ M * 16) ∧ (-(M * 16) ≤ (b - a) * k ∧ (b - a) * k ≤ M * 16) ∧ (0 ≤ a * n + (b - a) * k ∧ a * n + (b - a) * k ≤ M * 16) := by
  have h1 := mul_bd a0 a1 (by omega : 0 ≤ n) n1
  have h2 := mul_bd2 (a := b - a) (b := k) (A := M) (B := 16) (by omega) (by omega) (by omega) (by omega)
  have h3 := mul_bd a0 a1 (by omega : 0 ≤ n - k) (Int.le_refl _)
  have h4 := mul_bd b0 b1 k0 (Int.le_refl _)
  have e : a * n + (b - a) * k = a * (n - k) + b * k := by grind
  have h5 : M * (n - k) + M * k = M * n := by grind
  have h6 : M * n ≤ M * 16 := Int.mul_le_mul_of_nonneg_left n1 (by omega)
  refine ⟨h1, h2, ?_⟩
  rw [e]; omega
theorem pl_bd {m : Mv} (h : mvOk m) {k : Int} (k0 : 0 ≤ k) (k1 : k ≤ m.c) : (0 ≤ plX m k ∧ plX m k ≤ 20480) ∧ (0 ≤ plY m k ∧ plY m k ≤ 10752) := by
  obtain ⟨h1, h2, h3, h4⟩ := h
  have a := isSp_iff.1 h1
  have b := isSp_iff.1 h2
  exact ⟨(way_bd (M := 1280) a.1.1 a.1.2 b.1.1 b.1.2 h4 k0 k1).2.2, (way_bd (M := 672) a.2.1 a.2.2 b.2.1 b.2.2 h4 k0 k1).2.2⟩
theorem clk_bd {n : Int} (h : 1 ≤ n) (d c : Int) : 0 ≤ clk n d c ∧ clk n d c ≤ n := by unfold clk; omega
theorem rl_bd {a b : Mv} (ha : mvOk a) (hb : mvOk b) (p q c : Int) : (-20480 ≤ rlX a b p q c ∧ rlX a b p q c ≤ 20480) ∧ (-10752 ≤ rlY a b p q c ∧ rlY a b p q c ≤ 10752) := by
  have c1 := clk_bd ha.2.2.1 p c
  have c2 := clk_bd hb.2.2.1 q c
  have h1 := pl_bd ha c1.1 c1.2
  have h2 := pl_bd hb c2.1 c2.2
  unfold rlX rlY
  omega

set_option maxRecDepth 100000 in
theorem mvAt_any (m : Mv) (k : Int) (h : mvOk m) (k0 : 0 ≤ k) (k1 : k ≤ m.c) (w : World) : Calls Tryz.prog 71 #[.agg #[.int .i64 m.f.x, .int .i64 m.f.y, .int .i64 m.t.x, .int .i64 m.t.y, .int .i64 m.c], .int .i64 k] w fun e w' => e = .returned (.tuple #[.int .i64 (plX m k), .int .i64 (plY m k)]) ∧ Below w.heap.size w w' := by
  obtain ⟨h1, h2, h3, h4⟩ := h
  have a := isSp_iff.1 h1
  have b := isSp_iff.1 h2
  have hx := way_bd (M := 1280) a.1.1 a.1.2 b.1.1 b.1.2 h4 k0 k1
  have hy := way_bd (M := 672) a.2.1 a.2.2 b.2.1 b.2.2 h4 k0 k1
  have ex : m.f.x * m.c + (m.t.x - m.f.x) * k = plX m k := rfl
  have ey : m.f.y * m.c + (m.t.y - m.f.y) * k = plY m k := rfl
  have EX := Lib.hid ex
  have EY := Lib.hid ey
  clear h1 h2 ex ey
  have k0 : ∀ dd os, (grow (redrawn (w.alloc (.cells #[.int .i64 m.f.x, .int .i64 m.f.y, .int .i64 m.t.x, .int .i64 m.t.y, .int .i64 m.c] 26)) dd) os).cell? ⟨w.heap.size, 0, none⟩ = some (.int .i64 m.f.x) := cell_regrown (by simp [go_sem])
  have k1 : ∀ dd os, (grow (redrawn (w.alloc (.cells #[.int .i64 m.f.x, .int .i64 m.f.y, .int .i64 m.t.x, .int .i64 m.t.y, .int .i64 m.c] 26)) dd) os).cell? ⟨w.heap.size, 1, none⟩ = some (.int .i64 m.f.y) := cell_regrown (by simp [go_sem])
  have k2 : ∀ dd os, (grow (redrawn (w.alloc (.cells #[.int .i64 m.f.x, .int .i64 m.f.y, .int .i64 m.t.x, .int .i64 m.t.y, .int .i64 m.c] 26)) dd) os).cell? ⟨w.heap.size, 2, none⟩ = some (.int .i64 m.t.x) := cell_regrown (by simp [go_sem])
  have k3 : ∀ dd os, (grow (redrawn (w.alloc (.cells #[.int .i64 m.f.x, .int .i64 m.f.y, .int .i64 m.t.x, .int .i64 m.t.y, .int .i64 m.c] 26)) dd) os).cell? ⟨w.heap.size, 3, none⟩ = some (.int .i64 m.t.y) := cell_regrown (by simp [go_sem])
  have k4 : ∀ dd os, (grow (redrawn (w.alloc (.cells #[.int .i64 m.f.x, .int .i64 m.f.y, .int .i64 m.t.x, .int .i64 m.t.y, .int .i64 m.c] 26)) dd) os).cell? ⟨w.heap.size, 4, none⟩ = some (.int .i64 m.c) := cell_regrown (by simp [go_sem])
  go_enter Tryz.func71, Tryz.ntmps71
  go_wp2
  refine wp_region_quiet_below (by kernel_rfl) (by kernel_rfl) ?_
  repeat (first | go_big_quiet_step (fail) | quiet_step (fail))
  refine wpQuiet_nil ?_
  intro _ hw'
  obtain ⟨⟨dq, osq⟩, hw''⟩ := hw'
  subst hw''
  have hb5 := below_regrown (w.alloc (.cells #[.int .i64 m.f.x, .int .i64 m.f.y, .int .i64 m.t.x, .int .i64 m.t.y, .int .i64 m.c] 26)) dq osq
  go_wp2
  go_ret2
  exact ⟨by first | rfl | (rw [EX.out, EY.out]; done) | (rw [EX.out, EY.out]; rfl), Below.next hb5 (by (repeat (first | exact Below.refl _ _ | assumption | (refine Below.alloc ?_ (by first | omega | (simp; done) | (simp; omega)) _) | (refine Below.setCell ?_ (by first | omega | (simp; done) | (simp; omega)) _) | (refine Below.drew ?_) | (refine Below.drewN ?_ _) | (refine Below.next (by assumption) ?_ (by first | omega | (simp; done) | (simp; omega)))))) (by simp)⟩

set_option maxRecDepth 100000 in
theorem placeAt_any (m : Mv) (k : Int) (h : mvOk m) (k0 : 0 ≤ k) (k1 : k ≤ m.c) (w : World) : Calls Tryz.prog 56 #[.agg #[.int .i64 m.f.x, .int .i64 m.f.y, .int .i64 m.t.x, .int .i64 m.t.y, .int .i64 m.c], .int .i64 k] w fun e w' => e = .returned (.tuple #[.int .i64 (plX m k), .int .i64 (plY m k)]) ∧ Below w.heap.size w w' := by
  obtain ⟨h1, h2, h3, h4⟩ := h
  have a := isSp_iff.1 h1
  have b := isSp_iff.1 h2
  have hx := way_bd (M := 1280) a.1.1 a.1.2 b.1.1 b.1.2 h4 k0 k1
  have hy := way_bd (M := 672) a.2.1 a.2.2 b.2.1 b.2.2 h4 k0 k1
  rw [Int.mul_comm (m.t.x - m.f.x) k] at hx
  rw [Int.mul_comm (m.t.y - m.f.y) k] at hy
  have ex : m.f.x * m.c + k * (m.t.x - m.f.x) = plX m k := by simp only [plX, Int.mul_comm k]
  have ey : m.f.y * m.c + k * (m.t.y - m.f.y) = plY m k := by simp only [plY, Int.mul_comm k]
  have EX := Lib.hid ex
  have EY := Lib.hid ey
  clear h1 h2 ex ey
  have k0 : ∀ dd os, (grow (redrawn (w.alloc (.cells #[.int .i64 m.f.x, .int .i64 m.f.y, .int .i64 m.t.x, .int .i64 m.t.y, .int .i64 m.c] 26)) dd) os).cell? ⟨w.heap.size, 0, none⟩ = some (.int .i64 m.f.x) := cell_regrown (by simp [go_sem])
  have k1 : ∀ dd os, (grow (redrawn (w.alloc (.cells #[.int .i64 m.f.x, .int .i64 m.f.y, .int .i64 m.t.x, .int .i64 m.t.y, .int .i64 m.c] 26)) dd) os).cell? ⟨w.heap.size, 1, none⟩ = some (.int .i64 m.f.y) := cell_regrown (by simp [go_sem])
  have k2 : ∀ dd os, (grow (redrawn (w.alloc (.cells #[.int .i64 m.f.x, .int .i64 m.f.y, .int .i64 m.t.x, .int .i64 m.t.y, .int .i64 m.c] 26)) dd) os).cell? ⟨w.heap.size, 2, none⟩ = some (.int .i64 m.t.x) := cell_regrown (by simp [go_sem])
  have k3 : ∀ dd os, (grow (redrawn (w.alloc (.cells #[.int .i64 m.f.x, .int .i64 m.f.y, .int .i64 m.t.x, .int .i64 m.t.y, .int .i64 m.c] 26)) dd) os).cell? ⟨w.heap.size, 3, none⟩ = some (.int .i64 m.t.y) := cell_regrown (by simp [go_sem])
  have k4 : ∀ dd os, (grow (redrawn (w.alloc (.cells #[.int .i64 m.f.x, .int .i64 m.f.y, .int .i64 m.t.x, .int .i64 m.t.y, .int .i64 m.c] 26)) dd) os).cell? ⟨w.heap.size, 4, none⟩ = some (.int .i64 m.c) := cell_regrown (by simp [go_sem])
  go_enter Tryz.func56, Tryz.ntmps56
  go_wp2
  refine wp_region_quiet_below (by kernel_rfl) (by kernel_rfl) ?_
  repeat (first | go_big_quiet_step (fail) | quiet_step (fail))
  refine wpQuiet_nil ?_
  intro _ hw'
  obtain ⟨⟨dq, osq⟩, hw''⟩ := hw'
  subst hw''
  have hb5 := below_regrown (w.alloc (.cells #[.int .i64 m.f.x, .int .i64 m.f.y, .int .i64 m.t.x, .int .i64 m.t.y, .int .i64 m.c] 26)) dq osq
  go_wp2
  go_ret2
  exact ⟨by first | rfl | (rw [EX.out, EY.out]; done) | (rw [EX.out, EY.out]; rfl), Below.next hb5 (by (repeat (first | exact Below.refl _ _ | assumption | (refine Below.alloc ?_ (by first | omega | (simp; done) | (simp; omega)) _) | (refine Below.setCell ?_ (by first | omega | (simp; done) | (simp; omega)) _) | (refine Below.drew ?_) | (refine Below.drewN ?_ _) | (refine Below.next (by assumption) ?_ (by first | omega | (simp; done) | (simp; omega)))))) (by simp)⟩

set_option maxRecDepth 100000 in
theorem rpAt_any (m : Mv) (d c : Int) (h : mvOk m) (d0 : 0 ≤ d) (d1 : d ≤ 4) (c0 : 0 ≤ c) (c1 : c ≤ 100) (w : World) : Calls Tryz.prog 46 #[.agg #[.int .i64 m.f.x, .int .i64 m.f.y, .int .i64 m.t.x, .int .i64 m.t.y, .int .i64 m.c], .int .i64 d, .int .i64 c] w fun e w' => e = .returned (.tuple #[.int .i64 (plX m (clk m.c d c)), .int .i64 (plY m (clk m.c d c))]) ∧ Below w.heap.size w w' := by
  have hc := clk_bd h.2.2.1 d c
  have hcn := h.2.2
  have he : max 0 (min m.c (c - d)) = clk m.c d c := by unfold clk; omega
  have hw : IntKind.i64.wrap (c - d) = c - d := IntWalk.i64_in _ (by omega)
  have k0 : ∀ dd os, (grow (redrawn (w.alloc (.cells #[.int .i64 m.f.x, .int .i64 m.f.y, .int .i64 m.t.x, .int .i64 m.t.y, .int .i64 m.c] 26)) dd) os).cell? ⟨w.heap.size, 0, none⟩ = some (.int .i64 m.f.x) := cell_regrown (by simp [go_sem])
  have k1 : ∀ dd os, (grow (redrawn (w.alloc (.cells #[.int .i64 m.f.x, .int .i64 m.f.y, .int .i64 m.t.x, .int .i64 m.t.y, .int .i64 m.c] 26)) dd) os).cell? ⟨w.heap.size, 1, none⟩ = some (.int .i64 m.f.y) := cell_regrown (by simp [go_sem])
  have k2 : ∀ dd os, (grow (redrawn (w.alloc (.cells #[.int .i64 m.f.x, .int .i64 m.f.y, .int .i64 m.t.x, .int .i64 m.t.y, .int .i64 m.c] 26)) dd) os).cell? ⟨w.heap.size, 2, none⟩ = some (.int .i64 m.t.x) := cell_regrown (by simp [go_sem])
  have k3 : ∀ dd os, (grow (redrawn (w.alloc (.cells #[.int .i64 m.f.x, .int .i64 m.f.y, .int .i64 m.t.x, .int .i64 m.t.y, .int .i64 m.c] 26)) dd) os).cell? ⟨w.heap.size, 3, none⟩ = some (.int .i64 m.t.y) := cell_regrown (by simp [go_sem])
  have k4 : ∀ dd os, (grow (redrawn (w.alloc (.cells #[.int .i64 m.f.x, .int .i64 m.f.y, .int .i64 m.t.x, .int .i64 m.t.y, .int .i64 m.c] 26)) dd) os).cell? ⟨w.heap.size, 4, none⟩ = some (.int .i64 m.c) := cell_regrown (by simp [go_sem])
  have C1 := Lib.hid (show ∀ dd os, Calls Tryz.prog 72 #[.int .i64 m.c, .int .i64 (c - d)] (grow (redrawn (w.alloc (.cells #[.int .i64 m.f.x, .int .i64 m.f.y, .int .i64 m.t.x, .int .i64 m.t.y, .int .i64 m.c] 26)) dd) os) (fun e w'' => e = .returned (.int .i64 (min m.c (c - d))) ∧ ∃ p : Regrown, w'' = grow (redrawn (w.alloc (.cells #[.int .i64 m.f.x, .int .i64 m.f.y, .int .i64 m.t.x, .int .i64 m.t.y, .int .i64 m.c] 26)) p.d) p.os) from fun dd os => Calls.regrown_of ((l1Least_any m.c (c - d) _).mono (by rintro e w' ⟨he, rfl⟩; exact ⟨he, Below.refl _ _⟩)))
  have C2 := Lib.hid (show ∀ dd os, Calls Tryz.prog 49 #[.int .i64 0, .int .i64 (min m.c (c - d))] (grow (redrawn (w.alloc (.cells #[.int .i64 m.f.x, .int .i64 m.f.y, .int .i64 m.t.x, .int .i64 m.t.y, .int .i64 m.c] 26)) dd) os) (fun e w'' => e = .returned (.int .i64 (clk m.c d c)) ∧ ∃ p : Regrown, w'' = grow (redrawn (w.alloc (.cells #[.int .i64 m.f.x, .int .i64 m.f.y, .int .i64 m.t.x, .int .i64 m.t.y, .int .i64 m.c] 26)) p.d) p.os) from fun dd os => Calls.regrown_of ((l1Most_any 0 (min m.c (c - d)) _).mono (by rintro e w' ⟨he, rfl⟩; exact ⟨he, Below.refl _ _⟩)))
  have C3 := Lib.hid (show ∀ dd os, Calls Tryz.prog 71 #[.agg #[.int .i64 m.f.x, .int .i64 m.f.y, .int .i64 m.t.x, .int .i64 m.t.y, .int .i64 m.c], .int .i64 (clk m.c d c)] (grow (redrawn (w.alloc (.cells #[.int .i64 m.f.x, .int .i64 m.f.y, .int .i64 m.t.x, .int .i64 m.t.y, .int .i64 m.c] 26)) dd) os) (fun e w'' => e = .returned (.tuple #[.int .i64 (plX m (clk m.c d c)), .int .i64 (plY m (clk m.c d c))]) ∧ ∃ p : Regrown, w'' = grow (redrawn (w.alloc (.cells #[.int .i64 m.f.x, .int .i64 m.f.y, .int .i64 m.t.x, .int .i64 m.t.y, .int .i64 m.c] 26)) p.d) p.os) from fun dd os => Calls.regrown_of ((mvAt_any m (clk m.c d c) h hc.1 hc.2 _).mono (by rintro e w' ⟨he, hb⟩; exact ⟨he, hb⟩)))
  clear hcn
  go_enter Tryz.func46, Tryz.ntmps46
  go_wp2_with fail
  refine wp_region_quiet_below (by kernel_rfl) (by kernel_rfl) ?_
  repeat (first | go_big_quiet_step (first | with_reducible exact C1.out _ _ | with_reducible exact C2.out _ _ | with_reducible exact C3.out _ _) | quiet_step (first | with_reducible exact C1.out _ _ | with_reducible exact C2.out _ _ | with_reducible exact C3.out _ _))
  refine wpQuiet_nil ?_
  intro _ hw'
  obtain ⟨⟨dq, osq⟩, hw''⟩ := hw'
  subst hw''
  have hb5 := below_regrown (w.alloc (.cells #[.int .i64 m.f.x, .int .i64 m.f.y, .int .i64 m.t.x, .int .i64 m.t.y, .int .i64 m.c] 26)) dq osq
  go_wp2_with fail
  go_ret2
  exact ⟨rfl, Below.next hb5 (by (repeat (first | exact Below.refl _ _ | assumption | (refine Below.alloc ?_ (by first | omega | (simp; done) | (simp; omega)) _) | (refine Below.setCell ?_ (by first | omega | (simp; done) | (simp; omega)) _) | (refine Below.drew ?_) | (refine Below.drewN ?_ _) | (refine Below.next (by assumption) ?_ (by first | omega | (simp; done) | (simp; omega)))))) (by simp)⟩

theorem ret_pl (m : Mv) {X Y : Int} (h : X = Y) : Ending.returned (.tuple #[.int .i64 (plX m X), .int .i64 (plY m X)]) = .returned (.tuple #[.int .i64 (plX m Y), .int .i64 (plY m Y)]) := by rw [h]
set_option maxRecDepth 10000 in
theorem placeDelayed_any (m : Mv) (d c : Int) (h : mvOk m) (d0 : 0 ≤ d) (d1 : d ≤ 4) (c0 : 0 ≤ c) (c1 : c ≤ 100) (w : World) : Calls Tryz.prog 44 #[.agg #[.int .i64 m.f.x, .int .i64 m.f.y, .int .i64 m.t.x, .int .i64 m.t.y, .int .i64 m.c], .int .i64 d, .int .i64 c] w fun e w' => e = .returned (.tuple #[.int .i64 (plX m (clk m.c d c)), .int .i64 (plY m (clk m.c d c))]) ∧ Below w.heap.size w w' := by
  have hcn := h.2.2
  have HH := Lib.hid h
  clear h
  go_enter Tryz.func44, Tryz.ntmps44
  go_wp2_with (go_at_call 56; refine (placeAt_any m _ HH.out (by omega) (by omega) _).mono ?_; rintro e w' ⟨rfl, hq⟩)
  all_goals
    go_ret2
    exact ⟨ret_pl m (by unfold clk; omega), by (repeat (first | exact Below.refl _ _ | assumption | (refine Below.alloc ?_ (by first | omega | (simp; done) | (simp; omega)) _) | (refine Below.setCell ?_ (by first | omega | (simp; done) | (simp; omega)) _) | (refine Below.drew ?_) | (refine Below.drewN ?_ _) | (refine Below.next (by assumption) ?_ (by first | omega | (simp; done) | (simp; omega)))))⟩

end Go.Proofs.YthehcjfljjfnmaaGreat
