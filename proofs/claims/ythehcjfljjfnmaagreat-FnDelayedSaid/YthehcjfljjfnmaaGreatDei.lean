/-
  Contracts: the least square of two moves with delays, the program's; who comes too close.
-/
import Derived.Test.YthehcjfljjfnmaaGreatDeh
namespace Go.Proofs.YthehcjfljjfnmaaGreat
open Go.RowKit Go.Sort Go.Lib

theorem crs_eq (x y z u : Int) : x * (u - y) - y * (z - x) = x * u - y * z := by grind

set_option maxRecDepth 100000 in
set_option maxHeartbeats 6400000 in
theorem leastDelayed_any (a b : Mv) (p q : Int) (ha : mvOk a) (hb : mvOk b) (p0 : 0 ≤ p) (p1 : p ≤ 4) (q0 : 0 ≤ q) (q1 : q ≤ 4) (w : World) : Calls Tryz.prog 30 #[.agg #[.int .i64 a.f.x, .int .i64 a.f.y, .int .i64 a.t.x, .int .i64 a.t.y, .int .i64 a.c], .agg #[.int .i64 b.f.x, .int .i64 b.f.y, .int .i64 b.t.x, .int .i64 b.t.y, .int .i64 b.c], .int .i64 p, .int .i64 q] w fun e w' => ∃ n d t u : Int, e = .returned (.tuple #[.int .i64 (lwN n (d * a.c * a.c)), .int .i64 (lwD n (d * a.c * a.c))]) ∧ n = lwN t u ∧ d = lwD t u ∧ imF (xx a b p q) (yy a b p q) (cntK a p q) = (t, u) ∧ Below w.heap.size w w' := by
  obtain ⟨hX, hY⟩ := xx_bd ha hb p q
  have HX := Lib.hid hX
  have HY := Lib.hid hY
  have hk : (cntK a p q : Int) = a.c + max p q := by
    have := ha.2.2
    unfold cntK; omega
  have hm0 : 0 ≤ max p q ∧ max p q ≤ 4 := by omega
  have hac := ha.2.2
  have hbc := hb.2.2
  have HK := Lib.hid hk
  have hA0 := pl_bd ha (by omega : (0 : Int) ≤ 0) (by omega : (0 : Int) ≤ a.c)
  have hB0 := pl_bd hb (by omega : (0 : Int) ≤ 0) (by omega : (0 : Int) ≤ b.c)
  have hz0 : clk a.c p 0 = 0 := by unfold clk; omega
  have hz1 : clk b.c q 0 = 0 := by unfold clk; omega
  have hx0 : plX a 0 - plX b 0 = xx a b p q 0 := by show _ = rlX a b p q ((0 : Nat) : Int); unfold rlX; rw [show ((0 : Nat) : Int) = 0 from rfl, hz0, hz1]
  have hy0 : plY a 0 - plY b 0 = yy a b p q 0 := by show _ = rlY a b p q ((0 : Nat) : Int); unfold rlY; rw [show ((0 : Nat) : Int) = 0 from rfl, hz0, hz1]
  have hi0 : imF (xx a b p q) (yy a b p q) 0 = ((plX a 0 - plX b 0) * (plX a 0 - plX b 0) + (plY a 0 - plY b 0) * (plY a 0 - plY b 0), 1) := by rw [hx0, hy0]; rfl
  have HX0 := Lib.hid hx0
  have HY0 := Lib.hid hy0
  have HI0 := Lib.hid hi0
  obtain ⟨-, -, ⟨c1, c2, -, -⟩⟩ := part_bd (x := plX a 0 - plX b 0) (y := plY a 0 - plY b 0) (z := 0) (w := 0) (by rw [hx0]; exact hX 0) (by rw [hy0]; exact hY 0) ⟨by omega, by omega⟩ ⟨by omega, by omega⟩
  have CR1 := Lib.hid (fun w => placeAt_any a 0 ha (by omega) (by omega) w)
  have CR2 := Lib.hid (fun w => placeAt_any b 0 hb (by omega) (by omega) w)
  clear hX hY hz0 hz1 hx0 hy0 hi0 hk
  have hpq : p < q ∨ q < p ∨ p = q := by omega
  go_enter Tryz.func30, Tryz.ntmps30
  go_wp2_with fail
  have m0 : ((w.alloc (.cells #[.int .i64 a.f.x, .int .i64 a.f.y, .int .i64 a.t.x, .int .i64 a.t.y, .int .i64 a.c] 26)).alloc (.cells #[.int .i64 b.f.x, .int .i64 b.f.y, .int .i64 b.t.x, .int .i64 b.t.y, .int .i64 b.c] 26)).cell? ⟨w.heap.size, 0, none⟩ = some (.int .i64 a.f.x) := by simp [go_sem]
  have m1 : ((w.alloc (.cells #[.int .i64 a.f.x, .int .i64 a.f.y, .int .i64 a.t.x, .int .i64 a.t.y, .int .i64 a.c] 26)).alloc (.cells #[.int .i64 b.f.x, .int .i64 b.f.y, .int .i64 b.t.x, .int .i64 b.t.y, .int .i64 b.c] 26)).cell? ⟨w.heap.size, 1, none⟩ = some (.int .i64 a.f.y) := by simp [go_sem]
  have m2 : ((w.alloc (.cells #[.int .i64 a.f.x, .int .i64 a.f.y, .int .i64 a.t.x, .int .i64 a.t.y, .int .i64 a.c] 26)).alloc (.cells #[.int .i64 b.f.x, .int .i64 b.f.y, .int .i64 b.t.x, .int .i64 b.t.y, .int .i64 b.c] 26)).cell? ⟨w.heap.size, 2, none⟩ = some (.int .i64 a.t.x) := by simp [go_sem]
  have m3 : ((w.alloc (.cells #[.int .i64 a.f.x, .int .i64 a.f.y, .int .i64 a.t.x, .int .i64 a.t.y, .int .i64 a.c] 26)).alloc (.cells #[.int .i64 b.f.x, .int .i64 b.f.y, .int .i64 b.t.x, .int .i64 b.t.y, .int .i64 b.c] 26)).cell? ⟨w.heap.size, 3, none⟩ = some (.int .i64 a.t.y) := by simp [go_sem]
  have m4 : ((w.alloc (.cells #[.int .i64 a.f.x, .int .i64 a.f.y, .int .i64 a.t.x, .int .i64 a.t.y, .int .i64 a.c] 26)).alloc (.cells #[.int .i64 b.f.x, .int .i64 b.f.y, .int .i64 b.t.x, .int .i64 b.t.y, .int .i64 b.c] 26)).cell? ⟨w.heap.size, 4, none⟩ = some (.int .i64 a.c) := by simp [go_sem]
  have n0 : ((w.alloc (.cells #[.int .i64 a.f.x, .int .i64 a.f.y, .int .i64 a.t.x, .int .i64 a.t.y, .int .i64 a.c] 26)).alloc (.cells #[.int .i64 b.f.x, .int .i64 b.f.y, .int .i64 b.t.x, .int .i64 b.t.y, .int .i64 b.c] 26)).cell? ⟨w.heap.size + 1, 0, none⟩ = some (.int .i64 b.f.x) := by simp [go_sem]
  have n1 : ((w.alloc (.cells #[.int .i64 a.f.x, .int .i64 a.f.y, .int .i64 a.t.x, .int .i64 a.t.y, .int .i64 a.c] 26)).alloc (.cells #[.int .i64 b.f.x, .int .i64 b.f.y, .int .i64 b.t.x, .int .i64 b.t.y, .int .i64 b.c] 26)).cell? ⟨w.heap.size + 1, 1, none⟩ = some (.int .i64 b.f.y) := by simp [go_sem]
  have n2 : ((w.alloc (.cells #[.int .i64 a.f.x, .int .i64 a.f.y, .int .i64 a.t.x, .int .i64 a.t.y, .int .i64 a.c] 26)).alloc (.cells #[.int .i64 b.f.x, .int .i64 b.f.y, .int .i64 b.t.x, .int .i64 b.t.y, .int .i64 b.c] 26)).cell? ⟨w.heap.size + 1, 2, none⟩ = some (.int .i64 b.t.x) := by simp [go_sem]
  have n3 : ((w.alloc (.cells #[.int .i64 a.f.x, .int .i64 a.f.y, .int .i64 a.t.x, .int .i64 a.t.y, .int .i64 a.c] 26)).alloc (.cells #[.int .i64 b.f.x, .int .i64 b.f.y, .int .i64 b.t.x, .int .i64 b.t.y, .int .i64 b.c] 26)).cell? ⟨w.heap.size + 1, 3, none⟩ = some (.int .i64 b.t.y) := by simp [go_sem]
  have n4 : ((w.alloc (.cells #[.int .i64 a.f.x, .int .i64 a.f.y, .int .i64 a.t.x, .int .i64 a.t.y, .int .i64 a.c] 26)).alloc (.cells #[.int .i64 b.f.x, .int .i64 b.f.y, .int .i64 b.t.x, .int .i64 b.t.y, .int .i64 b.c] 26)).cell? ⟨w.heap.size + 1, 4, none⟩ = some (.int .i64 b.c) := by simp [go_sem]
  have hW0 : Below w.heap.size w ((w.alloc (.cells #[.int .i64 a.f.x, .int .i64 a.f.y, .int .i64 a.t.x, .int .i64 a.t.y, .int .i64 a.c] 26)).alloc (.cells #[.int .i64 b.f.x, .int .i64 b.f.y, .int .i64 b.t.x, .int .i64 b.t.y, .int .i64 b.c] 26)) := by (repeat (first | exact Below.refl _ _ | assumption | (refine Below.alloc ?_ (by first | omega | (simp; done) | (simp; omega)) _) | (refine Below.setCell ?_ (by first | omega | (simp; done) | (simp; omega)) _) | (refine Below.drew ?_) | (refine Below.drewN ?_ _) | (refine Below.next (by assumption) ?_ (by first | omega | (simp; done) | (simp; omega)))))
  have hs0 : ((w.alloc (.cells #[.int .i64 a.f.x, .int .i64 a.f.y, .int .i64 a.t.x, .int .i64 a.t.y, .int .i64 a.c] 26)).alloc (.cells #[.int .i64 b.f.x, .int .i64 b.f.y, .int .i64 b.t.x, .int .i64 b.t.y, .int .i64 b.c] 26)).heap.size = w.heap.size + 1 + 1 := by simp
  generalize ((w.alloc (.cells #[.int .i64 a.f.x, .int .i64 a.f.y, .int .i64 a.t.x, .int .i64 a.t.y, .int .i64 a.c] 26)).alloc (.cells #[.int .i64 b.f.x, .int .i64 b.f.y, .int .i64 b.t.x, .int .i64 b.t.y, .int .i64 b.c] 26)) = W0 at *
  have gz1 : w.heap.size < W0.heap.size := by omega
  have gz2 : w.heap.size + 1 < W0.heap.size := by omega
  go_wp2_with (first | (go_at_call 56; with_reducible refine (CR1.out _).mono ?_; rintro e w' ⟨rfl, hq⟩; obtain ⟨hz, hc, hf⟩ := bel hq; (try simp at hz); (try have gz1 : w.heap.size < w'.heap.size := by omega); (try have gz2 : w.heap.size + 1 < w'.heap.size := by omega); (try have gz3 : wr.heap.size < w'.heap.size := by omega)) | (go_at_call 56; with_reducible refine (CR2.out _).mono ?_; rintro e w' ⟨rfl, hq⟩; obtain ⟨hz, hc, hf⟩ := bel hq; (try simp at hz); (try have gz1 : w.heap.size < w'.heap.size := by omega); (try have gz2 : w.heap.size + 1 < w'.heap.size := by omega); (try have gz3 : wr.heap.size < w'.heap.size := by omega)))
  have hL0 : Below W0.heap.size W0 w' := by (repeat (first | exact Below.refl _ _ | assumption | (refine Below.alloc ?_ (by first | omega | (simp; done) | (simp; omega)) _) | (refine Below.setCell ?_ (by first | omega | (simp; done) | (simp; omega)) _) | (refine Below.drew ?_) | (refine Below.drewN ?_ _) | (refine Below.next (by assumption) ?_ (by first | omega | (simp; done) | (simp; omega)))))
  clear hq hz hc hf gz1 gz2 c1 c2 hA0 hB0
  go_loopw [10, 11, 12, 13, 14, 15, 16, 17, 18, 19, 20, 21, 22, 23, 24, 25] (fun _ _ _ _ dx dy t u c _ _ _ _ _ _ _ wr => ∃ k : Nat, k ≤ cntK a p q ∧ c = .int .i64 ((k : Int) + 1) ∧ dx = .int .i64 (xx a b p q k) ∧ dy = .int .i64 (yy a b p q k) ∧ t = .int .i64 (imF (xx a b p q) (yy a b p q) k).1 ∧ u = .int .i64 (imF (xx a b p q) (yy a b p q) k).2 ∧ Below W0.heap.size W0 wr) (fun _ _ _ _ _ _ _ _ c _ _ _ _ _ _ _ _ => cntK a p q + 1 - (intOf c).toNat)
  case atStart => exact ⟨0, by omega, rfl, by rw [HX0.out], by rw [HY0.out], by rw [HI0.out], by rw [HI0.out], hL0⟩
  case round =>
    obtain ⟨k, hk, rfl, rfl, rfl, rfl, rfl, hbw⟩ := hrel
    clear hL0
    have hsz := hbw.size
    have hbw0 : Below w.heap.size w wr := Below.next hbw hW0 (by omega)
    have rm0 : wr.cell? ⟨w.heap.size, 0, none⟩ = some (.int .i64 a.f.x) := keep1 hbw m0
    have rm1 : wr.cell? ⟨w.heap.size, 1, none⟩ = some (.int .i64 a.f.y) := keep1 hbw m1
    have rm2 : wr.cell? ⟨w.heap.size, 2, none⟩ = some (.int .i64 a.t.x) := keep1 hbw m2
    have rm3 : wr.cell? ⟨w.heap.size, 3, none⟩ = some (.int .i64 a.t.y) := keep1 hbw m3
    have rm4 : wr.cell? ⟨w.heap.size, 4, none⟩ = some (.int .i64 a.c) := keep1 hbw m4
    have rn0 : wr.cell? ⟨w.heap.size + 1, 0, none⟩ = some (.int .i64 b.f.x) := keep1 hbw n0
    have rn1 : wr.cell? ⟨w.heap.size + 1, 1, none⟩ = some (.int .i64 b.f.y) := keep1 hbw n1
    have rn2 : wr.cell? ⟨w.heap.size + 1, 2, none⟩ = some (.int .i64 b.t.x) := keep1 hbw n2
    have rn3 : wr.cell? ⟨w.heap.size + 1, 3, none⟩ = some (.int .i64 b.t.y) := keep1 hbw n3
    have rn4 : wr.cell? ⟨w.heap.size + 1, 4, none⟩ = some (.int .i64 b.c) := keep1 hbw n4
    clear m0 m1 m2 m3 m4 n0 n1 n2 n3 n4
    have gz1 : w.heap.size < wr.heap.size := by omega
    have gz2 : w.heap.size + 1 < wr.heap.size := by omega
    have hkk : (k : Int) ≤ 20 := by have := HK.out; omega
    have hb1 : bx (xx a b p q k) := HX.out k
    have hb2 : byy (yy a b p q k) := HY.out k
    have hb3 : bx (plX a (clk a.c p ((k : Int) + 1)) - plX b (clk b.c q ((k : Int) + 1))) := HX.out (k + 1)
    have hb4 : byy (plY a (clk a.c p ((k : Int) + 1)) - plY b (clk b.c q ((k : Int) + 1))) := HY.out (k + 1)
    have hx1 : (plX a (clk a.c p ((k : Int) + 1)) - plX b (clk b.c q ((k : Int) + 1))) = xx a b p q (k + 1) := rfl
    have hy1 : (plY a (clk a.c p ((k : Int) + 1)) - plY b (clk b.c q ((k : Int) + 1))) = yy a b p q (k + 1) := rfl
    obtain ⟨t, u, hS⟩ : ∃ t u, imF (xx a b p q) (yy a b p q) k = (t, u) := ⟨_, _, rfl⟩
    have hSb : fBd (t, u) := hS ▸ imF_bd HX.out HY.out k
    have hSo : fOk (t, u) := hS ▸ imF_ok (xx a b p q) (yy a b p q) k
    obtain ⟨s1, s2, s3⟩ := hSb
    have s0 := hSo.1
    dsimp only at s0 s1 s2 s3
    clear hSo
    rw [hS]
    have HS := Lib.hid hS
    have HX1 := Lib.hid hx1
    have HY1 := Lib.hid hy1
    by_cases hlt : k < cntK a p q
    · have hlt2 : (k : Int) + 1 ≤ a.c + max p q := by have := HK.out; omega
      have hA0 := pl_bd ha (clk_bd ha.2.2.1 p ((k : Int) + 1)).1 (clk_bd ha.2.2.1 p ((k : Int) + 1)).2
      have hB0 := pl_bd hb (clk_bd hb.2.2.1 q ((k : Int) + 1)).1 (clk_bd hb.2.2.1 q ((k : Int) + 1)).2
      generalize hx : xx a b p q k = x at *
      generalize hy : yy a b p q k = y at *
      have HXX := Lib.hid hx
      have HYY := Lib.hid hy
      clear hx hy hx1 hy1 hS
      obtain ⟨⟨a1, a2, a3, a4⟩, ⟨b1, b2, b3⟩, ⟨-, -, c3, c4⟩⟩ := part_bd hb1 hb2 hb3 hb4
      have d1 := mul_bd2 (a := x) (b := (plY a (clk a.c p ((k : Int) + 1)) - plY b (clk b.c q ((k : Int) + 1))) - y) (A := 20480) (B := 21504) (by have := hb1; unfold bx at this; omega) (by have := hb1; unfold bx at this; omega) (by have := hb2; unfold byy at this; omega) (by have := hb2; unfold byy at this; omega)
      have d2 := mul_bd2 (a := y) (b := (plX a (clk a.c p ((k : Int) + 1)) - plX b (clk b.c q ((k : Int) + 1))) - x) (A := 10752) (B := 40960) (by have := hb2; unfold byy at this; omega) (by have := hb2; unfold byy at this; omega) (by have := hb1; unfold bx at this; omega) (by have := hb1; unfold bx at this; omega)
      have hcr : x * ((plY a (clk a.c p ((k : Int) + 1)) - plY b (clk b.c q ((k : Int) + 1))) - y) - y * ((plX a (clk a.c p ((k : Int) + 1)) - plX b (clk b.c q ((k : Int) + 1))) - x) = x * (plY a (clk a.c p ((k : Int) + 1)) - plY b (clk b.c q ((k : Int) + 1))) - y * (plX a (clk a.c p ((k : Int) + 1)) - plX b (clk b.c q ((k : Int) + 1))) := crs_eq _ _ _ _
      obtain ⟨x0, x1⟩ := hb1
      obtain ⟨y0, y1⟩ := hb2
      clear hb3 hb4
      have CR3 := Lib.hid (fun w => placeDelayed_any a p ((k : Int) + 1) ha p0 p1 (by omega) (by omega) w)
      have CR4 := Lib.hid (fun w => placeDelayed_any b q ((k : Int) + 1) hb q0 q1 (by omega) (by omega) w)
      have hcase : (∃ f v : Int, (0 < ptN x y (plX a (clk a.c p ((k : Int) + 1)) - plX b (clk b.c q ((k : Int) + 1))) (plY a (clk a.c p ((k : Int) + 1)) - plY b (clk b.c q ((k : Int) + 1))) ∧ ptN x y (plX a (clk a.c p ((k : Int) + 1)) - plX b (clk b.c q ((k : Int) + 1))) (plY a (clk a.c p ((k : Int) + 1)) - plY b (clk b.c q ((k : Int) + 1))) < ptD x y (plX a (clk a.c p ((k : Int) + 1)) - plX b (clk b.c q ((k : Int) + 1))) (plY a (clk a.c p ((k : Int) + 1)) - plY b (clk b.c q ((k : Int) + 1))) ∧ f = crs x y (plX a (clk a.c p ((k : Int) + 1)) - plX b (clk b.c q ((k : Int) + 1))) (plY a (clk a.c p ((k : Int) + 1)) - plY b (clk b.c q ((k : Int) + 1))) * crs x y (plX a (clk a.c p ((k : Int) + 1)) - plX b (clk b.c q ((k : Int) + 1))) (plY a (clk a.c p ((k : Int) + 1)) - plY b (clk b.c q ((k : Int) + 1))) ∧ v = ptD x y (plX a (clk a.c p ((k : Int) + 1)) - plX b (clk b.c q ((k : Int) + 1))) (plY a (clk a.c p ((k : Int) + 1)) - plY b (clk b.c q ((k : Int) + 1)))) ∧ stF x y (plX a (clk a.c p ((k : Int) + 1)) - plX b (clk b.c q ((k : Int) + 1))) (plY a (clk a.c p ((k : Int) + 1)) - plY b (clk b.c q ((k : Int) + 1))) = (f, v)) ∨ (∃ f v : Int, (¬ 0 < ptN x y (plX a (clk a.c p ((k : Int) + 1)) - plX b (clk b.c q ((k : Int) + 1))) (plY a (clk a.c p ((k : Int) + 1)) - plY b (clk b.c q ((k : Int) + 1))) ∧ f = (plX a (clk a.c p ((k : Int) + 1)) - plX b (clk b.c q ((k : Int) + 1))) * (plX a (clk a.c p ((k : Int) + 1)) - plX b (clk b.c q ((k : Int) + 1))) + (plY a (clk a.c p ((k : Int) + 1)) - plY b (clk b.c q ((k : Int) + 1))) * (plY a (clk a.c p ((k : Int) + 1)) - plY b (clk b.c q ((k : Int) + 1))) ∧ v = 1) ∧ stF x y (plX a (clk a.c p ((k : Int) + 1)) - plX b (clk b.c q ((k : Int) + 1))) (plY a (clk a.c p ((k : Int) + 1)) - plY b (clk b.c q ((k : Int) + 1))) = (f, v)) ∨ (∃ f v : Int, (0 < ptN x y (plX a (clk a.c p ((k : Int) + 1)) - plX b (clk b.c q ((k : Int) + 1))) (plY a (clk a.c p ((k : Int) + 1)) - plY b (clk b.c q ((k : Int) + 1))) ∧ ¬ ptN x y (plX a (clk a.c p ((k : Int) + 1)) - plX b (clk b.c q ((k : Int) + 1))) (plY a (clk a.c p ((k : Int) + 1)) - plY b (clk b.c q ((k : Int) + 1))) < ptD x y (plX a (clk a.c p ((k : Int) + 1)) - plX b (clk b.c q ((k : Int) + 1))) (plY a (clk a.c p ((k : Int) + 1)) - plY b (clk b.c q ((k : Int) + 1))) ∧ f = (plX a (clk a.c p ((k : Int) + 1)) - plX b (clk b.c q ((k : Int) + 1))) * (plX a (clk a.c p ((k : Int) + 1)) - plX b (clk b.c q ((k : Int) + 1))) + (plY a (clk a.c p ((k : Int) + 1)) - plY b (clk b.c q ((k : Int) + 1))) * (plY a (clk a.c p ((k : Int) + 1)) - plY b (clk b.c q ((k : Int) + 1))) ∧ v = 1) ∧ stF x y (plX a (clk a.c p ((k : Int) + 1)) - plX b (clk b.c q ((k : Int) + 1))) (plY a (clk a.c p ((k : Int) + 1)) - plY b (clk b.c q ((k : Int) + 1))) = (f, v)) := by
        by_cases h1 : 0 < ptN x y (plX a (clk a.c p ((k : Int) + 1)) - plX b (clk b.c q ((k : Int) + 1))) (plY a (clk a.c p ((k : Int) + 1)) - plY b (clk b.c q ((k : Int) + 1)))
        · by_cases h2 : ptN x y (plX a (clk a.c p ((k : Int) + 1)) - plX b (clk b.c q ((k : Int) + 1))) (plY a (clk a.c p ((k : Int) + 1)) - plY b (clk b.c q ((k : Int) + 1))) < ptD x y (plX a (clk a.c p ((k : Int) + 1)) - plX b (clk b.c q ((k : Int) + 1))) (plY a (clk a.c p ((k : Int) + 1)) - plY b (clk b.c q ((k : Int) + 1)))
          · exact .inl ⟨_, _, ⟨h1, h2, rfl, rfl⟩, stF_yes h1 h2⟩
          · exact .inr (.inr ⟨_, _, ⟨h1, h2, rfl, rfl⟩, stF_no (fun h => h2 h.2)⟩)
        · exact .inr (.inl ⟨_, _, ⟨h1, rfl, rfl⟩, stF_no (fun h => h1 h.1)⟩)
      have hN : ptN x y (plX a (clk a.c p ((k : Int) + 1)) - plX b (clk b.c q ((k : Int) + 1))) (plY a (clk a.c p ((k : Int) + 1)) - plY b (clk b.c q ((k : Int) + 1))) = -(x * ((plX a (clk a.c p ((k : Int) + 1)) - plX b (clk b.c q ((k : Int) + 1))) - x) + y * ((plY a (clk a.c p ((k : Int) + 1)) - plY b (clk b.c q ((k : Int) + 1))) - y)) := rfl
      have hD : ptD x y (plX a (clk a.c p ((k : Int) + 1)) - plX b (clk b.c q ((k : Int) + 1))) (plY a (clk a.c p ((k : Int) + 1)) - plY b (clk b.c q ((k : Int) + 1))) = ((plX a (clk a.c p ((k : Int) + 1)) - plX b (clk b.c q ((k : Int) + 1))) - x) * ((plX a (clk a.c p ((k : Int) + 1)) - plX b (clk b.c q ((k : Int) + 1))) - x) + ((plY a (clk a.c p ((k : Int) + 1)) - plY b (clk b.c q ((k : Int) + 1))) - y) * ((plY a (clk a.c p ((k : Int) + 1)) - plY b (clk b.c q ((k : Int) + 1))) - y) := rfl
      have hC : crs x y (plX a (clk a.c p ((k : Int) + 1)) - plX b (clk b.c q ((k : Int) + 1))) (plY a (clk a.c p ((k : Int) + 1)) - plY b (clk b.c q ((k : Int) + 1))) = x * (plY a (clk a.c p ((k : Int) + 1)) - plY b (clk b.c q ((k : Int) + 1))) - y * (plX a (clk a.c p ((k : Int) + 1)) - plX b (clk b.c q ((k : Int) + 1))) := rfl
      rw [hN, hD, hC] at hcase
      clear hN hD hC
      rcases hcase with ⟨f, v, ⟨h1, h2, h3, h4⟩, h5⟩ | ⟨f, v, ⟨h1, h3, h4⟩, h5⟩ | ⟨f, v, ⟨h1, h2, h3, h4⟩, h5⟩
      all_goals
        have f0 : fOk (f, v) := h5 ▸ stF_ok _ _ _ _
        obtain ⟨f2, f3⟩ := f0
        dsimp only at f2 f3
        have f4 : f ≤ 193954251360993280 := by omega
        have f6 : v ≤ 2200000000 := by omega
        cases hL : fLt (f, v) (t, u)
        all_goals
          have HL := Lib.hid hL
          have HR : Hid (imF (xx a b p q) (yy a b p q) (k + 1) = if fLt (f, v) (t, u) = true then (f, v) else (t, u)) := Lib.hid (by rw [imF, HS.out, HXX.out, HYY.out, ← HX1.out, ← HY1.out, h5])
          rw [h3, h4] at HL
          have CR5 := Lib.hid (fun w => lessFr_any f v t u (by omega) (by omega) (by omega) (by omega) (by omega) (by omega) (by omega) (by omega) w)
          rw [h3, h4] at CR5
          subst h3
          subst h4
          clear h5
          rcases hpq with hpq | hpq | hpq
          all_goals
            (try subst hpq)
            go_wp2_with (first | (go_at_call 44; with_reducible refine (CR3.out _).mono ?_; rintro e w' ⟨rfl, hq⟩; obtain ⟨hz, hc, hf⟩ := bel hq; (try simp at hz); (try have gz1 : w.heap.size < w'.heap.size := by omega); (try have gz2 : w.heap.size + 1 < w'.heap.size := by omega); (try have gz3 : wr.heap.size < w'.heap.size := by omega)) | (go_at_call 44; with_reducible refine (CR4.out _).mono ?_; rintro e w' ⟨rfl, hq⟩; obtain ⟨hz, hc, hf⟩ := bel hq; (try simp at hz); (try have gz1 : w.heap.size < w'.heap.size := by omega); (try have gz2 : w.heap.size + 1 < w'.heap.size := by omega); (try have gz3 : wr.heap.size < w'.heap.size := by omega)) | (go_at_call 57; with_reducible refine (CR5.out _).mono ?_; rintro e w' ⟨he, rfl⟩; rw [HL.out] at he; subst he))
            go_roundw
            case rel => exact ⟨k + 1, by omega, by go_num, by rw [← HX1.out], by rw [← HY1.out], by rw [HR.out]; simp [HL.out], by rw [HR.out]; simp [HL.out], by (repeat (first | exact Below.refl _ _ | assumption | (refine Below.alloc ?_ (by first | omega | (simp; done) | (simp; omega)) _) | (refine Below.setCell ?_ (by first | omega | (simp; done) | (simp; omega)) _) | (refine Below.drew ?_) | (refine Below.drewN ?_ _) | (refine Below.next (by assumption) ?_ (by first | omega | (simp; done) | (simp; omega)))))⟩
            case measure => simp [intOf]; omega
    · have hkK : k = cntK a p q := by omega
      have hge : ¬ (k : Int) + 1 ≤ a.c + max p q := by have := HK.out; omega
      obtain ⟨g, hg, hge2, e1, e2, n1, n2, n3, n4⟩ := lw_facts s0 s2
      obtain ⟨⟨d1, d2⟩, ⟨d3, d4⟩⟩ := area_bd n3 (by omega) hac.1 hac.2
      have CR3 := Lib.hid (fun w => lowestTerms_any t u (by omega) (by omega) (by omega) (by omega) w)
      have CR4 := Lib.hid (fun w => lowestTerms_any (lwN t u) (lwD t u * a.c * a.c) (by omega) (by omega) (by omega) (by omega) w)
      clear hge2 e1 e2
      rcases hpq with hpq | hpq | hpq
      all_goals
        (try subst hpq)
        go_wp2_with (first | (go_at_call 58; with_reducible refine (CR3.out _).mono ?_; rintro e w' ⟨rfl, hq⟩; obtain ⟨hz, hc, hf⟩ := bel hq; (try simp at hz); (try have gz1 : w.heap.size < w'.heap.size := by omega); (try have gz2 : w.heap.size + 1 < w'.heap.size := by omega); (try have gz3 : wr.heap.size < w'.heap.size := by omega)) | (go_at_call 58; with_reducible refine (CR4.out _).mono ?_; rintro e w' ⟨rfl, hq⟩; obtain ⟨hz, hc, hf⟩ := bel hq; (try simp at hz); (try have gz1 : w.heap.size < w'.heap.size := by omega); (try have gz2 : w.heap.size + 1 < w'.heap.size := by omega); (try have gz3 : wr.heap.size < w'.heap.size := by omega)))
        go_ret2
        exact ⟨lwN t u, lwD t u, t, u, rfl, rfl, rfl, by rw [← hkK, HS.out], by (repeat (first | exact Below.refl _ _ | assumption | (refine Below.alloc ?_ (by first | omega | (simp; done) | (simp; omega)) _) | (refine Below.setCell ?_ (by first | omega | (simp; done) | (simp; omega)) _) | (refine Below.drew ?_) | (refine Below.drewN ?_ _) | (refine Below.next (by assumption) ?_ (by first | omega | (simp; done) | (simp; omega)))))⟩

/-- Two moves with delays come closer than a least distance. -/
def clB (a b : Mv) (p q L : Int) : Bool := decide ((spF (xx a b p q) (yy a b p q) (cntK a p q)).1 < L * L * ((spF (xx a b p q) (yy a b p q) (cntK a p q)).2 * a.c * a.c))
theorem cnt_pos {a : Mv} (ha : mvOk a) {p q : Int} (p0 : 0 ≤ p) : ∃ j, cntK a p q = j + 1 := by
  have := ha.2.2
  refine ⟨cntK a p q - 1, ?_⟩
  unfold cntK
  omega
theorem cl_im {a b : Mv} (ha : mvOk a) {p q : Int} (p0 : 0 ≤ p) (L : Int) {t u : Int} (h : imF (xx a b p q) (yy a b p q) (cntK a p q) = (t, u)) : clB a b p q L = decide (t < L * L * (u * a.c * a.c)) := by
  obtain ⟨j, hj⟩ := cnt_pos (q := q) ha p0
  have h2 := sp_im (xx a b p q) (yy a b p q) (L * L * a.c * a.c) j
  unfold clB
  rw [hj] at h ⊢
  rw [h] at h2
  refine decide_eq_decide.2 ?_
  have e (v : Int) : L * L * (v * a.c * a.c) = L * L * a.c * a.c * v := by grind
  rw [e, e]
  exact h2
set_option maxHeartbeats 1600000 in
set_option maxRecDepth 100000 in
theorem rpFits_any (a b : Mv) (p q L : Int) (ha : mvOk a) (hb : mvOk b) (p0 : 0 ≤ p) (p1 : p ≤ 4) (q0 : 0 ≤ q) (q1 : q ≤ 4) (L0 : 0 ≤ L) (L1 : L ≤ 80) (w : World) : Calls Tryz.prog 70 #[.agg #[.int .i64 a.f.x, .int .i64 a.f.y, .int .i64 a.t.x, .int .i64 a.t.y, .int .i64 a.c], .agg #[.int .i64 b.f.x, .int .i64 b.f.y, .int .i64 b.t.x, .int .i64 b.t.y, .int .i64 b.c], .int .i64 p, .int .i64 q, .int .i64 L] w fun e w' => e = .returned (.bool (!clB a b p q L)) ∧ Below w.heap.size w w' := by
  obtain ⟨hX, hY⟩ := xx_bd ha hb p q
  obtain ⟨j, hj⟩ := cnt_pos (q := q) ha p0
  have CR := fun w => rpFirst_any a b p q ha hb p0 p1 q0 q1 w
  have hcl : clB a b p q L = decide ((spF (xx a b p q) (yy a b p q) (cntK a p q)).1 < L * L * ((spF (xx a b p q) (yy a b p q) (cntK a p q)).2 * a.c * a.c)) := rfl
  obtain ⟨s1, s2, s3⟩ := spF_bd hX hY (cntK a p q)
  have s0 : 0 ≤ (spF (xx a b p q) (yy a b p q) (cntK a p q)).1 := by rw [hj]; exact (spF_ok _ _ j).1
  generalize spF (xx a b p q) (yy a b p q) (cntK a p q) = S at *
  obtain ⟨t, u⟩ := S
  dsimp only at s0 s1 s2 s3 hcl CR
  obtain ⟨⟨d1, d2⟩, ⟨d3, d4⟩⟩ := area_bd s2 s3 ha.2.2.1 ha.2.2.2
  obtain ⟨g, hg, -, -, -, n1, n2, n3, n4⟩ := lw_facts s0 d3
  have hlb := lw_below s0 d3 (L * L)
  have hLL := mul_bd L0 L1 L0 L1
  generalize lwN t (u * a.c * a.c) = n at *
  generalize lwD t (u * a.c * a.c) = d at *
  have hle := Int.le_ediv_iff_mul_le (a := L * L) (b := n) n3
  obtain ⟨f1, f2, -, f4, -, f6, f7⟩ := div_facts n1 (by omega) n3
  have C1 := Lib.hid CR
  have HCL := Lib.hid hcl
  clear CR hcl hX hY hj
  by_cases h : L * L ≤ n / d
  · have hn : clB a b p q L = false := by rw [HCL.out]; simp; rw [← Int.not_lt, ← hlb, Int.not_lt]; exact hle.1 h
    rw [hn]
    clear hn hle hlb
    have HA := Lib.hid ha
    clear ha hb
    go_enter Tryz.func70, Tryz.ntmps70
    go_wp2_with (go_at_call 34; with_reducible refine (C1.out _).mono ?_; rintro e w' ⟨rfl, hq⟩)
    go_ret
    exact ⟨by simp [h], by (repeat (first | exact Below.refl _ _ | assumption | (refine Below.alloc ?_ (by first | omega | (simp; done) | (simp; omega)) _) | (refine Below.setCell ?_ (by first | omega | (simp; done) | (simp; omega)) _) | (refine Below.drew ?_) | (refine Below.drewN ?_ _) | (refine Below.next (by assumption) ?_ (by first | omega | (simp; done) | (simp; omega)))))⟩
  · have hn : clB a b p q L = true := by rw [HCL.out]; simp; rw [← hlb]; have := mt hle.2 h; omega
    rw [hn]
    clear hn hle hlb
    have HA := Lib.hid ha
    clear ha hb
    go_enter Tryz.func70, Tryz.ntmps70
    go_wp2_with (go_at_call 34; with_reducible refine (C1.out _).mono ?_; rintro e w' ⟨rfl, hq⟩)
    go_ret
    exact ⟨by simp [h], by (repeat (first | exact Below.refl _ _ | assumption | (refine Below.alloc ?_ (by first | omega | (simp; done) | (simp; omega)) _) | (refine Below.setCell ?_ (by first | omega | (simp; done) | (simp; omega)) _) | (refine Below.drew ?_) | (refine Below.drewN ?_ _) | (refine Below.next (by assumption) ?_ (by first | omega | (simp; done) | (simp; omega)))))⟩
set_option maxHeartbeats 1600000 in
set_option maxRecDepth 100000 in
theorem closeDelayed_any (a b : Mv) (p q L : Int) (ha : mvOk a) (hb : mvOk b) (p0 : 0 ≤ p) (p1 : p ≤ 4) (q0 : 0 ≤ q) (q1 : q ≤ 4) (L0 : 0 ≤ L) (L1 : L ≤ 80) (w : World) : Calls Tryz.prog 67 #[.agg #[.int .i64 a.f.x, .int .i64 a.f.y, .int .i64 a.t.x, .int .i64 a.t.y, .int .i64 a.c], .agg #[.int .i64 b.f.x, .int .i64 b.f.y, .int .i64 b.t.x, .int .i64 b.t.y, .int .i64 b.c], .int .i64 p, .int .i64 q, .int .i64 L] w fun e w' => e = .returned (.bool (clB a b p q L)) ∧ Below w.heap.size w w' := by
  obtain ⟨hX, hY⟩ := xx_bd ha hb p q
  have CR := Lib.hid (fun w => leastDelayed_any a b p q ha hb p0 p1 q0 q1 w)
  have HA := Lib.hid ha
  obtain ⟨t, u, hS⟩ : ∃ t u, imF (xx a b p q) (yy a b p q) (cntK a p q) = (t, u) := ⟨_, _, rfl⟩
  have hbd : fBd (t, u) := hS ▸ imF_bd hX hY (cntK a p q)
  have hok : fOk (t, u) := hS ▸ imF_ok (xx a b p q) (yy a b p q) (cntK a p q)
  have hcl := cl_im ha p0 L hS
  obtain ⟨s1, s2, s3⟩ := hbd
  have s0 := hok.1
  dsimp only at s0 s1 s2 s3
  obtain ⟨g, hg, -, -, -, n1, n2, n3, n4⟩ := lw_facts s0 s2
  have hl1 := lw_below s0 s2 (L * L * a.c * a.c)
  obtain ⟨⟨d1, d2⟩, ⟨d3, d4⟩⟩ := area_bd n3 (by omega) ha.2.2.1 ha.2.2.2
  obtain ⟨g2, hg2, -, -, -, k1, k2, k3, k4⟩ := lw_facts n1 d3
  have hl2 := lw_below n1 d3 (L * L)
  have hLL := mul_bd L0 L1 L0 L1
  have e (v : Int) : L * L * (v * a.c * a.c) = L * L * a.c * a.c * v := by grind
  rw [e, hl1, ← e] at hl2
  have HS := Lib.hid hS
  clear hl1 e hX hY ha hb hok hg hg2 d1 d2 hS
  have hm := mul_bd (a := L * L) (b := lwD (lwN t u) (lwD t u * a.c * a.c)) hLL.1 hLL.2 (Int.le_of_lt k3) (Int.le_trans k4 d4)
  have CR2 : Hid (∀ w, Calls Tryz.prog 30 #[.agg #[.int .i64 a.f.x, .int .i64 a.f.y, .int .i64 a.t.x, .int .i64 a.t.y, .int .i64 a.c], .agg #[.int .i64 b.f.x, .int .i64 b.f.y, .int .i64 b.t.x, .int .i64 b.t.y, .int .i64 b.c], .int .i64 p, .int .i64 q] w fun e w' => e = .returned (.tuple #[.int .i64 (lwN (lwN t u) (lwD t u * a.c * a.c)), .int .i64 (lwD (lwN t u) (lwD t u * a.c * a.c))]) ∧ Below w.heap.size w w') := Lib.hid (fun w => (CR.out w).mono (by
    rintro e w' ⟨n, d, t2, u2, he, rfl, rfl, h3, hb⟩
    rw [HS.out] at h3
    cases h3
    exact ⟨he, hb⟩))
  clear CR d3 d4 n1 n2 n3 n4
  generalize lwN (lwN t u) (lwD t u * a.c * a.c) = n at *
  generalize lwD (lwN t u) (lwD t u * a.c * a.c) = d at *
  by_cases h : n < L * L * d
  · have hn : clB a b p q L = true := by rw [hcl]; simpa using hl2.1 h
    rw [hn]
    clear hn hl2 hcl
    go_enter Tryz.func67, Tryz.ntmps67
    go_wp2_with (go_at_call 30; with_reducible refine (CR2.out _).mono ?_; rintro e w' ⟨rfl, hq⟩)
    go_ret
    exact ⟨by simp [h], by (repeat (first | exact Below.refl _ _ | assumption | (refine Below.alloc ?_ (by first | omega | (simp; done) | (simp; omega)) _) | (refine Below.setCell ?_ (by first | omega | (simp; done) | (simp; omega)) _) | (refine Below.drew ?_) | (refine Below.drewN ?_ _) | (refine Below.next (by assumption) ?_ (by first | omega | (simp; done) | (simp; omega)))))⟩
  · have hn : clB a b p q L = false := by rw [hcl]; simpa using mt hl2.2 h
    rw [hn]
    clear hn hl2 hcl
    go_enter Tryz.func67, Tryz.ntmps67
    go_wp2_with (go_at_call 30; with_reducible refine (CR2.out _).mono ?_; rintro e w' ⟨rfl, hq⟩)
    go_ret
    exact ⟨by simp [h], by (repeat (first | exact Below.refl _ _ | assumption | (refine Below.alloc ?_ (by first | omega | (simp; done) | (simp; omega)) _) | (refine Below.setCell ?_ (by first | omega | (simp; done) | (simp; omega)) _) | (refine Below.drew ?_) | (refine Below.drewN ?_ _) | (refine Below.next (by assumption) ?_ (by first | omega | (simp; done) | (simp; omega)))))⟩

end Go.Proofs.YthehcjfljjfnmaaGreat
