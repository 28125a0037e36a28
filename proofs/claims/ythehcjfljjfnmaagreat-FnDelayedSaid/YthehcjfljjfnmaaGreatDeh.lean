/-
  Contracts: the least square of two moves with delays; who comes too close.
-/
import Derived.Test.YthehcjfljjfnmaaGreatDeg
namespace Go.Proofs.YthehcjfljjfnmaaGreat
open Go.RowKit Go.Sort Go.Lib

def xx (a b : Mv) (p q : Int) : Nat → Int := fun k => rlX a b p q k
def yy (a b : Mv) (p q : Int) : Nat → Int := fun k => rlY a b p q k
def cntK (a : Mv) (p q : Int) : Nat := (a.c + max p q).toNat
def fBd (f : Int × Int) : Prop := f.1 ≤ 193954251360993280 ∧ 0 < f.2 ∧ f.2 ≤ 2200000000
theorem ptF_bd {x y z w : Int} (hx : bx x) (hy : byy y) (hz : bx z) (hw : byy w) : fBd (ptF x y z w) := by
  obtain ⟨⟨a1, a2, a3, a4⟩, ⟨b1, b2, b3⟩, ⟨c1, c2, c3, c4⟩⟩ := part_bd hx hy hz hw
  have hd : ptD x y z w = (z - x) * (z - x) + (w - y) * (w - y) := rfl
  have h0 := ptF_ok x y z w
  refine ⟨?_, h0.2, ?_⟩
  · unfold ptF; split
    · exact b3.2
    · show min _ _ ≤ _; omega
  · unfold ptF; split
    · show ptD x y z w ≤ _; omega
    · show (1 : Int) ≤ _; omega
theorem stF_bd {x y z w : Int} (hx : bx x) (hy : byy y) (hz : bx z) (hw : byy w) : fBd (stF x y z w) := by
  obtain ⟨⟨a1, a2, a3, a4⟩, ⟨b1, b2, b3⟩, ⟨c1, c2, c3, c4⟩⟩ := part_bd hx hy hz hw
  have hd : ptD x y z w = (z - x) * (z - x) + (w - y) * (w - y) := rfl
  have h0 := stF_ok x y z w
  refine ⟨?_, h0.2, ?_⟩
  · unfold stF; split
    · exact b3.2
    · show z * z + w * w ≤ _; omega
  · unfold stF; split
    · show ptD x y z w ≤ _; omega
    · show (1 : Int) ≤ _; omega
theorem spF_bd {X Y : Nat → Int} (hX : ∀ k, bx (X k)) (hY : ∀ k, byy (Y k)) : ∀ k, fBd (spF X Y k)
  | 0 => ⟨by show (-1 : Int) ≤ _; omega, Int.zero_lt_one, by show (1 : Int) ≤ _; omega⟩
  | k + 1 => by
    rw [spF]; split
    · exact ptF_bd (hX _) (hY _) (hX _) (hY _)
    · exact spF_bd hX hY k
theorem imF_bd {X Y : Nat → Int} (hX : ∀ k, bx (X k)) (hY : ∀ k, byy (Y k)) : ∀ k, fBd (imF X Y k)
  | 0 => by
    obtain ⟨⟨a1, a2, a3, a4⟩, ⟨b1, b2, b3⟩, ⟨c1, c2, c3, c4⟩⟩ := part_bd (hX 0) (hY 0) (hX 0) (hY 0)
    exact ⟨by show X 0 * X 0 + Y 0 * Y 0 ≤ _; omega, Int.zero_lt_one, by show (1 : Int) ≤ _; omega⟩
  | k + 1 => by
    rw [imF]; split
    · exact stF_bd (hX _) (hY _) (hX _) (hY _)
    · exact imF_bd hX hY k
theorem xx_bd {a b : Mv} (ha : mvOk a) (hb : mvOk b) (p q : Int) : (∀ k, bx (xx a b p q k)) ∧ (∀ k, byy (yy a b p q k)) := ⟨fun k => (rl_bd ha hb p q k).1, fun k => (rl_bd ha hb p q k).2⟩
theorem sp_step {X Y : Nat → Int} {k : Nat} {t u : Int} (hS : spF X Y k = (t, u)) (h : t < 0 ∨ fLt (ptF (X k) (Y k) (X (k + 1)) (Y (k + 1))) (t, u) = true) : spF X Y (k + 1) = ptF (X k) (Y k) (X (k + 1)) (Y (k + 1)) := by
  rw [spF, hS, if_pos h]
theorem sp_stay {X Y : Nat → Int} {k : Nat} {t u : Int} (hS : spF X Y k = (t, u)) (h0 : ¬ t < 0) (h : fLt (ptF (X k) (Y k) (X (k + 1)) (Y (k + 1))) (t, u) = false) : spF X Y (k + 1) = (t, u) := by
  rw [spF, hS, if_neg (by simp [h0, h])]
theorem im_step {X Y : Nat → Int} {k : Nat} {t u : Int} (hS : imF X Y k = (t, u)) (h : fLt (stF (X k) (Y k) (X (k + 1)) (Y (k + 1))) (t, u) = true) : imF X Y (k + 1) = stF (X k) (Y k) (X (k + 1)) (Y (k + 1)) := by
  rw [imF, hS, if_pos h]
theorem im_stay {X Y : Nat → Int} {k : Nat} {t u : Int} (hS : imF X Y k = (t, u)) (h : fLt (stF (X k) (Y k) (X (k + 1)) (Y (k + 1))) (t, u) = false) : imF X Y (k + 1) = (t, u) := by
  rw [imF, hS, if_neg (by simp [h])]
theorem stF_yes {x y z w : Int} (h1 : 0 < ptN x y z w) (h2 : ptN x y z w < ptD x y z w) : stF x y z w = (crs x y z w * crs x y z w, ptD x y z w) := by rw [stF, if_pos ⟨h1, h2⟩]
theorem stF_no {x y z w : Int} (h : ¬ (0 < ptN x y z w ∧ ptN x y z w < ptD x y z w)) : stF x y z w = (z * z + w * w, 1) := by rw [stF, if_neg h]
theorem area_bd {u c : Int} (h0 : 0 < u) (h1 : u ≤ 2200000000) (c0 : 1 ≤ c) (c1 : c ≤ 16) : (0 < u * c ∧ u * c ≤ 35200000000) ∧ (0 < u * c * c ∧ u * c * c ≤ 563200000000) := by
  have a1 := mul_bd (by omega : 0 ≤ u) h1 (by omega : 0 ≤ c) c1
  have a2 : 0 < u * c := Int.mul_pos h0 (by omega)
  have a3 := mul_bd (by omega : 0 ≤ u * c) a1.2 (by omega : 0 ≤ c) c1
  have a4 : 0 < u * c * c := Int.mul_pos a2 (by omega)
  omega

set_option maxRecDepth 100000 in
set_option maxHeartbeats 6400000 in
theorem rpFirst_any (a b : Mv) (p q : Int) (ha : mvOk a) (hb : mvOk b) (p0 : 0 ≤ p) (p1 : p ≤ 4) (q0 : 0 ≤ q) (q1 : q ≤ 4) (w : World) : Calls Tryz.prog 34 #[.agg #[.int .i64 a.f.x, .int .i64 a.f.y, .int .i64 a.t.x, .int .i64 a.t.y, .int .i64 a.c], .agg #[.int .i64 b.f.x, .int .i64 b.f.y, .int .i64 b.t.x, .int .i64 b.t.y, .int .i64 b.c], .int .i64 p, .int .i64 q] w fun e w' => e = .returned (.tuple #[.int .i64 (lwN (spF (xx a b p q) (yy a b p q) (cntK a p q)).1 ((spF (xx a b p q) (yy a b p q) (cntK a p q)).2 * a.c * a.c)), .int .i64 (lwD (spF (xx a b p q) (yy a b p q) (cntK a p q)).1 ((spF (xx a b p q) (yy a b p q) (cntK a p q)).2 * a.c * a.c))]) ∧ Below w.heap.size w w' := by
  obtain ⟨hX, hY⟩ := xx_bd ha hb p q
  have HX := Lib.hid hX
  have HY := Lib.hid hY
  have hk : (cntK a p q : Int) = a.c + max p q := by
    have := ha.2.2
    unfold cntK; omega
  have hm0 : 0 ≤ max p q ∧ max p q ≤ 4 := by omega
  have hac := ha.2.2
  have HK := Lib.hid hk
  clear hX hY
  go_enter Tryz.func34, Tryz.ntmps34
  go_wp2
  have m0 : ((w.alloc (.cells #[.int .i64 a.f.x, .int .i64 a.f.y, .int .i64 a.t.x, .int .i64 a.t.y, .int .i64 a.c] 26)).alloc (.cells #[.int .i64 b.f.x, .int .i64 b.f.y, .int .i64 b.t.x, .int .i64 b.t.y, .int .i64 b.c] 26)).cell? ⟨w.heap.size, 0, none⟩ = some (.int .i64 a.f.x) := by simp [go_sem]
  have m1 : ((w.alloc (.cells #[.int .i64 a.f.x, .int .i64 a.f.y, .int .i64 a.t.x, .int .i64 a.t.y, .int .i64 a.c] 26)).alloc (.cells #[.int .i64 b.f.x, .int .i64 b.f.y, .int .i64 b.t.x, .int .i64 b.t.y, .int .i64 b.c] 26)).cell? ⟨w.heap.size, 1, none⟩ = some (.int .i64 a.f.y) := by simp [go_sem]
  have m2 : ((w.alloc (.cells #[.int .i64 a.f.x, .int .i64 a.f.y, .int .i64 a.t.x, .int .i64 a.t.y, .int .i64 a.c] 26)).alloc (.cells #[.int .i64 b.f.x, .int .i64 b.f.y, .int .i64 b.t.x, .int .i64 b.t.y, .int .i64 b.c] 26)).cell? ⟨w.heap.size, 2, none⟩ = some (.int .i64 a.t.x) := by simp [go_sem]
  have m3 : ((w.alloc (.cells #[.int .i64 a.f.x, .int .i64 a.f.y, .int .i64 a.t.x, .int .i64 a.t.y, .int .i64 a.c] 26)).alloc (.cells #[.int .i64 b.f.x, .int .i64 b.f.y, .int .i64 b.t.x, .int .i64 b.t.y, .int .i64 b.c] 26)).cell? ⟨w.heap.size, 3, none⟩ = some (.int .i64 a.t.y) := by simp [go_sem]
  have m4 : ((w.alloc (.cells #[.int .i64 a.f.x, .int .i64 a.f.y, .int .i64 a.t.x, .int .i64 a.t.y, .int .i64 a.c] 26)).alloc (.cells #[.int .i64 b.f.x, .int .i64 b.f.y, .int .i64 b.t.x, .int .i64 b.t.y, .int .i64 b.c] 26)).cell? ⟨w.heap.size, 4, none⟩ = some (.int .i64 a.c) := by simp [go_sem]
  have n0 : ((w.alloc (.cells #[.int .i64 a.f.x, .int .i64 a.f.y, .int .i64 a.t.x, .int .i64 a.t.y, .int .i64 a.c] 26)).alloc (.cells #[.int .i64 b.f.x, .int .i64 b.f.y, .int .i64 b.t.x, .int .i64 b.t.y, .int .i64 b.c] 26)).cell? ⟨w.heap.size + 1, 0, none⟩ = some (.int .i64 b.f.x) := by simp [go_sem]
  have n1 : ((w.alloc (.cells #[.int .i64 a.f.x, .int .i64 a.f.y, .int .i64 a.t.x, .int .i64 a.t.y, .int .i64 a.c] 26)).alloc (.cells #[.int .i64 b.f.x, .int .i64 b.f.y, .int .i64 b.t.x, .int .i64 b.t.y, .int .i64 b.c] 26)).cell? ⟨w.heap.size + 1, 1, none⟩ = some (.int .i64 b.f.y) := by simp [go_sem]
  have n2 : ((w.alloc (.cells #[.int .i64 a.f.x, .int .i64 a.f.y, .int .i64 a.t.x, .int .i64 a.t.y, .int .i64 a.c] 26)).alloc (.cells #[.int .i64 b.f.x, .int .i64 b.f.y, .int .i64 b.t.x, .int .i64 b.t.y, .int .i64 b.c] 26)).cell? ⟨w.heap.size + 1, 2, none⟩ = some (.int .i64 b.t.x) := by simp [go_sem]
  have n3 : ((w.alloc (.cells #[.int .i64 a.f.x, .int .i64 a.f.y, .int .i64 a.t.x, .int .i64 a.t.y, .int .i64 a.c] 26)).alloc (.cells #[.int .i64 b.f.x, .int .i64 b.f.y, .int .i64 b.t.x, .int .i64 b.t.y, .int .i64 b.c] 26)).cell? ⟨w.heap.size + 1, 3, none⟩ = some (.int .i64 b.t.y) := by simp [go_sem]
  have n4 : ((w.alloc (.cells #[.int .i64 a.f.x, .int .i64 a.f.y, .int .i64 a.t.x, .int .i64 a.t.y, .int .i64 a.c] 26)).alloc (.cells #[.int .i64 b.f.x, .int .i64 b.f.y, .int .i64 b.t.x, .int .i64 b.t.y, .int .i64 b.c] 26)).cell? ⟨w.heap.size + 1, 4, none⟩ = some (.int .i64 b.c) := by simp [go_sem]
  have hW0 : Below w.heap.size w ((w.alloc (.cells #[.int .i64 a.f.x, .int .i64 a.f.y, .int .i64 a.t.x, .int .i64 a.t.y, .int .i64 a.c] 26)).alloc (.cells #[.int .i64 b.f.x, .int .i64 b.f.y, .int .i64 b.t.x, .int .i64 b.t.y, .int .i64 b.c] 26)) := by (repeat (first | exact Below.refl _ _ | assumption | (refine Below.alloc ?_ (by first | omega | (simp; done) | (simp; omega)) _) | (refine Below.setCell ?_ (by first | omega | (simp; done) | (simp; omega)) _) | (refine Below.drew ?_) | (refine Below.drewN ?_ _) | (refine Below.next (by assumption) ?_ (by first | omega | (simp; done) | (simp; omega)))))
  have hs0 : ((w.alloc (.cells #[.int .i64 a.f.x, .int .i64 a.f.y, .int .i64 a.t.x, .int .i64 a.t.y, .int .i64 a.c] 26)).alloc (.cells #[.int .i64 b.f.x, .int .i64 b.f.y, .int .i64 b.t.x, .int .i64 b.t.y, .int .i64 b.c] 26)).heap.size = w.heap.size + 1 + 1 := by simp
  generalize ((w.alloc (.cells #[.int .i64 a.f.x, .int .i64 a.f.y, .int .i64 a.t.x, .int .i64 a.t.y, .int .i64 a.c] 26)).alloc (.cells #[.int .i64 b.f.x, .int .i64 b.f.y, .int .i64 b.t.x, .int .i64 b.t.y, .int .i64 b.c] 26)) = W0 at *
  clear hk
  go_loopw [10, 11, 12, 13, 14, 15, 16, 17, 18, 19, 20, 21, 22] (fun t u c _ _ _ _ _ _ _ _ _ _ wr => ∃ k : Nat, k ≤ cntK a p q ∧ c = .int .i64 k ∧ t = .int .i64 (spF (xx a b p q) (yy a b p q) k).1 ∧ u = .int .i64 (spF (xx a b p q) (yy a b p q) k).2 ∧ Below W0.heap.size W0 wr) (fun _ _ c _ _ _ _ _ _ _ _ _ _ _ => cntK a p q - (intOf c).toNat)
  case atStart => exact ⟨0, by omega, rfl, rfl, rfl, Below.refl _ _⟩
  case round =>
    obtain ⟨k, hk, rfl, rfl, rfl, hbw⟩ := hrel
    have hsz := hbw.size
    have hbw0 : Below w.heap.size w wr := Below.next hbw hW0 (by omega)
    have rm0 : wr.cell? ⟨w.heap.size, 0, none⟩ = some (.int .i64 a.f.x) := keep1 hbw m0
    have rm1 : wr.cell? ⟨w.heap.size, 1, none⟩ = some (.int .i64 a.f.y) := keep1 hbw m1
    have rm2 : wr.cell? ⟨w.heap.size, 2, none⟩ = some (.int .i64 a.t.x) := keep1 hbw m2
    have rm3 : wr.cell? ⟨w.heap.size, 3, none⟩ = some (.int .i64 a.t.y) := keep1 hbw m3
    have rm4 : wr.cell? ⟨w.heap.size, 4, none⟩ = some (.int .i64 a.c) := keep1 hbw m4
    have rn0 : wr.cell? ⟨w.heap.size + 1, 0, none⟩ = some (.int .i64 b.f.x) := keep1 hbw n0
    have rn1 : wr.cell? ⟨w.heap.size + 1, 1, none⟩ = some (.int .i64 b.f.y) := keep1 hbw n1
    have rn2 : wr.cell? ⟨w.heap.size + 1, 2, none⟩ = some (.int .i64 b.t.x) := keep1 hbw n2
    have rn3 : wr.cell? ⟨w.heap.size + 1, 3, none⟩ = some (.int .i64 b.t.y) := keep1 hbw n3
    have rn4 : wr.cell? ⟨w.heap.size + 1, 4, none⟩ = some (.int .i64 b.c) := keep1 hbw n4
    clear m0 m1 m2 m3 m4 n0 n1 n2 n3 n4
    have k4 : ∀ dd os, (grow (redrawn wr dd) os).cell? ⟨w.heap.size, 4, none⟩ = some (.int .i64 a.c) := cell_regrown rm4
    have C1 := Lib.hid (show ∀ dd os, Calls Tryz.prog 49 #[.int .i64 p, .int .i64 q] (grow (redrawn (wr) dd) os) (fun e w'' => e = .returned (.int .i64 (max p q)) ∧ ∃ p : Regrown, w'' = grow (redrawn (wr) p.d) p.os) from fun dd os => Calls.regrown_of ((l1Most_any p q _).mono (by rintro e w' ⟨he, rfl⟩; exact ⟨he, Below.refl _ _⟩)))
    have hkk : (k : Int) ≤ 20 := by have := HK.out; omega
    have hwk : IntKind.i64.wrap (a.c + max p q) = a.c + max p q := IntWalk.i64_in _ (by omega)
    obtain ⟨t, u, hS⟩ : ∃ t u, spF (xx a b p q) (yy a b p q) k = (t, u) := ⟨_, _, rfl⟩
    have hSb : fBd (t, u) := hS ▸ spF_bd HX.out HY.out k
    have hS0 : ¬ t < 0 → 0 ≤ t := fun h => by omega
    obtain ⟨s1, s2, s3⟩ := hSb
    dsimp only at s1 s2 s3
    rw [hS]
    have HS := Lib.hid hS
    clear hS
    by_cases hlt : (k : Int) < a.c + max p q
    · obtain hlk : k < cntK a p q := by have := HK.out; omega
      have hA0 := pl_bd ha (clk_bd ha.2.2.1 p (k : Int)).1 (clk_bd ha.2.2.1 p (k : Int)).2
      have hB0 := pl_bd hb (clk_bd hb.2.2.1 q (k : Int)).1 (clk_bd hb.2.2.1 q (k : Int)).2
      have hA1 := pl_bd ha (clk_bd ha.2.2.1 p ((k : Int) + 1)).1 (clk_bd ha.2.2.1 p ((k : Int) + 1)).2
      have hB1 := pl_bd hb (clk_bd hb.2.2.1 q ((k : Int) + 1)).1 (clk_bd hb.2.2.1 q ((k : Int) + 1)).2
      have b1 : bx (plX a (clk a.c p (k : Int)) - plX b (clk b.c q (k : Int))) := HX.out k
      have b2 : byy (plY a (clk a.c p (k : Int)) - plY b (clk b.c q (k : Int))) := HY.out k
      have b3 : bx (plX a (clk a.c p ((k : Int) + 1)) - plX b (clk b.c q ((k : Int) + 1))) := HX.out (k + 1)
      have b4 : byy (plY a (clk a.c p ((k : Int) + 1)) - plY b (clk b.c q ((k : Int) + 1))) := HY.out (k + 1)
      obtain ⟨f, hf⟩ : ∃ f, ptF (plX a (clk a.c p (k : Int)) - plX b (clk b.c q (k : Int))) (plY a (clk a.c p (k : Int)) - plY b (clk b.c q (k : Int))) (plX a (clk a.c p ((k : Int) + 1)) - plX b (clk b.c q ((k : Int) + 1))) (plY a (clk a.c p ((k : Int) + 1)) - plY b (clk b.c q ((k : Int) + 1))) = f := ⟨_, rfl⟩
      have f0 : fOk f := hf ▸ ptF_ok _ _ _ _
      have f1 : fBd f := hf ▸ ptF_bd b1 b2 b3 b4
      have hfX : ptF (xx a b p q k) (yy a b p q k) (xx a b p q (k + 1)) (yy a b p q (k + 1)) = f := hf
      have HF := Lib.hid hf
      have B4 := Lib.hid (show bx (plX a (clk a.c p (k : Int)) - plX b (clk b.c q (k : Int))) ∧ byy (plY a (clk a.c p (k : Int)) - plY b (clk b.c q (k : Int))) ∧ bx (plX a (clk a.c p ((k : Int) + 1)) - plX b (clk b.c q ((k : Int) + 1))) ∧ byy (plY a (clk a.c p ((k : Int) + 1)) - plY b (clk b.c q ((k : Int) + 1))) from ⟨b1, b2, b3, b4⟩)
      clear hf b1 b2 b3 b4
      obtain ⟨f, v⟩ := f
      obtain ⟨f2, f3⟩ := f0
      obtain ⟨f4, f5, f6⟩ := f1
      dsimp only at f2 f3 f4 f5 f6
      have hcase : (t < 0 ∧ spF (xx a b p q) (yy a b p q) (k + 1) = (f, v)) ∨ (¬ t < 0 ∧ fLt (f, v) (t, u) = true ∧ spF (xx a b p q) (yy a b p q) (k + 1) = (f, v)) ∨ (¬ t < 0 ∧ fLt (f, v) (t, u) = false ∧ spF (xx a b p q) (yy a b p q) (k + 1) = (t, u)) := by
        by_cases h1 : t < 0
        · exact .inl ⟨h1, (sp_step HS.out (.inl h1)).trans hfX⟩
        · cases h2 : fLt (f, v) (t, u)
          · exact .inr (.inr ⟨h1, rfl, sp_stay HS.out h1 (by rw [hfX]; exact h2)⟩)
          · exact .inr (.inl ⟨h1, rfl, (sp_step HS.out (.inr (by rw [hfX]; exact h2))).trans hfX⟩)
      clear hfX
      have HC := Lib.hid (show (k : Int) + 1 ≤ 20 by omega)
      have CR1 := Lib.hid (fun w => rpAt_any a p (k : Int) ha p0 p1 (by omega) (by omega) w)
      have CR2 := Lib.hid (fun w => rpAt_any b q (k : Int) hb q0 q1 (by omega) (by omega) w)
      have CR3 := Lib.hid (fun w => rpAt_any a p ((k : Int) + 1) ha p0 p1 (by omega) (by have := HC.out; omega) w)
      have CR4 := Lib.hid (fun w => rpAt_any b q ((k : Int) + 1) hb q0 q1 (by omega) (by have := HC.out; omega) w)
      go_wp2
      refine wp_region_quiet_below (by kernel_rfl) (by kernel_rfl) ?_
      repeat (first | go_big_quiet_step (first | with_reducible exact C1.out _ _) | quiet_step (first | with_reducible exact C1.out _ _))
      refine wpQuiet_nil ?_
      intro _ hw'
      obtain ⟨⟨dq, osq⟩, hw''⟩ := hw'
      subst hw''
      have hb5 := below_regrown (wr) dq osq
      have hsz2 := hb5.size
      have sm0 : (grow (redrawn wr dq) osq).cell? ⟨w.heap.size, 0, none⟩ = some (.int .i64 a.f.x) := keep1 hb5 rm0
      have sm1 : (grow (redrawn wr dq) osq).cell? ⟨w.heap.size, 1, none⟩ = some (.int .i64 a.f.y) := keep1 hb5 rm1
      have sm2 : (grow (redrawn wr dq) osq).cell? ⟨w.heap.size, 2, none⟩ = some (.int .i64 a.t.x) := keep1 hb5 rm2
      have sm3 : (grow (redrawn wr dq) osq).cell? ⟨w.heap.size, 3, none⟩ = some (.int .i64 a.t.y) := keep1 hb5 rm3
      have sm4 : (grow (redrawn wr dq) osq).cell? ⟨w.heap.size, 4, none⟩ = some (.int .i64 a.c) := keep1 hb5 rm4
      have sn0 : (grow (redrawn wr dq) osq).cell? ⟨w.heap.size + 1, 0, none⟩ = some (.int .i64 b.f.x) := keep1 hb5 rn0
      have sn1 : (grow (redrawn wr dq) osq).cell? ⟨w.heap.size + 1, 1, none⟩ = some (.int .i64 b.f.y) := keep1 hb5 rn1
      have sn2 : (grow (redrawn wr dq) osq).cell? ⟨w.heap.size + 1, 2, none⟩ = some (.int .i64 b.t.x) := keep1 hb5 rn2
      have sn3 : (grow (redrawn wr dq) osq).cell? ⟨w.heap.size + 1, 3, none⟩ = some (.int .i64 b.t.y) := keep1 hb5 rn3
      have sn4 : (grow (redrawn wr dq) osq).cell? ⟨w.heap.size + 1, 4, none⟩ = some (.int .i64 b.c) := keep1 hb5 rn4
      clear rm0 rm1 rm2 rm3 rm4 rn0 rn1 rn2 rn3 rn4 k4 C1
      have hb6 : Below W0.heap.size W0 (grow (redrawn wr dq) osq) := Below.next hb5 hbw hbw.size
      have gz1 : w.heap.size < (grow (redrawn wr dq) osq).heap.size := by omega
      have gz2 : w.heap.size + 1 < (grow (redrawn wr dq) osq).heap.size := by omega
      clear hb5 hsz2
      generalize hW2 : grow (redrawn wr dq) osq = W2 at *
      clear hW2
      rcases hcase with ⟨h1, h3⟩ | ⟨h1, h2, h3⟩ | ⟨h1, h2, h3⟩
      all_goals
        have H3 := Lib.hid h3
        clear h3
        try have H2 := Lib.hid h2
        try clear h2
        go_wp2_with (first | (go_at_call 46; with_reducible refine (CR1.out _).mono ?_; rintro e w' ⟨rfl, hq⟩; obtain ⟨hz, hc, hf⟩ := bel hq; (try simp at hz); (try have gz1 : w.heap.size < w'.heap.size := by omega); (try have gz2 : w.heap.size + 1 < w'.heap.size := by omega); (try have gz3 : wr.heap.size < w'.heap.size := by omega)) | (go_at_call 46; with_reducible refine (CR2.out _).mono ?_; rintro e w' ⟨rfl, hq⟩; obtain ⟨hz, hc, hf⟩ := bel hq; (try simp at hz); (try have gz1 : w.heap.size < w'.heap.size := by omega); (try have gz2 : w.heap.size + 1 < w'.heap.size := by omega); (try have gz3 : wr.heap.size < w'.heap.size := by omega)) | (go_at_call 46; with_reducible refine (CR3.out _).mono ?_; rintro e w' ⟨rfl, hq⟩; obtain ⟨hz, hc, hf⟩ := bel hq; (try simp at hz); (try have gz1 : w.heap.size < w'.heap.size := by omega); (try have gz2 : w.heap.size + 1 < w'.heap.size := by omega); (try have gz3 : wr.heap.size < w'.heap.size := by omega)) | (go_at_call 46; with_reducible refine (CR4.out _).mono ?_; rintro e w' ⟨rfl, hq⟩; obtain ⟨hz, hc, hf⟩ := bel hq; (try simp at hz); (try have gz1 : w.heap.size < w'.heap.size := by omega); (try have gz2 : w.heap.size + 1 < w'.heap.size := by omega); (try have gz3 : wr.heap.size < w'.heap.size := by omega)) | (go_at_call 60; refine (rpPart_any _ _ _ _ B4.out.1 B4.out.2.1 B4.out.2.2.1 B4.out.2.2.2 _).mono ?_; rw [HF.out]; rintro e w' ⟨rfl, rfl⟩) | (go_at_call 61; refine (apLess_any f v t u (by omega) (by omega) (by omega) (by omega) (by omega) (by omega) (by omega) (by omega) _).mono ?_; rintro e w' ⟨he, hq⟩; rw [H2.out] at he; subst he))
        go_roundw
        case rel => exact ⟨k + 1, by omega, by go_num, by rw [H3.out], by rw [H3.out], by (repeat (first | exact Below.refl _ _ | assumption | (refine Below.alloc ?_ (by first | omega | (simp; done) | (simp; omega)) _) | (refine Below.setCell ?_ (by first | omega | (simp; done) | (simp; omega)) _) | (refine Below.drew ?_) | (refine Below.drewN ?_ _) | (refine Below.next (by assumption) ?_ (by first | omega | (simp; done) | (simp; omega)))))⟩
        case measure => simp [intOf]; omega
    · have hkK : k = cntK a p q := by have := HK.out; omega
      have hk1 : ∃ j, k = j + 1 := ⟨k - 1, by have := HK.out; omega⟩
      have ht0 : 0 ≤ t := by
        obtain ⟨j, rfl⟩ := hk1
        have := (spF_ok (xx a b p q) (yy a b p q) j).1
        rw [HS.out] at this; exact this
      obtain ⟨⟨d1, d2⟩, ⟨d3, d4⟩⟩ := area_bd s2 s3 hac.1 hac.2
      go_wp2
      refine wp_region_quiet_below (by kernel_rfl) (by kernel_rfl) ?_
      repeat (first | go_big_quiet_step (first | with_reducible exact C1.out _ _) | quiet_step (first | with_reducible exact C1.out _ _))
      refine wpQuiet_nil ?_
      intro _ hw'
      obtain ⟨⟨dq, osq⟩, hw''⟩ := hw'
      subst hw''
      have hb5 := below_regrown (wr) dq osq
      have hsz2 := hb5.size
      have sm0 : (grow (redrawn wr dq) osq).cell? ⟨w.heap.size, 0, none⟩ = some (.int .i64 a.f.x) := keep1 hb5 rm0
      have sm1 : (grow (redrawn wr dq) osq).cell? ⟨w.heap.size, 1, none⟩ = some (.int .i64 a.f.y) := keep1 hb5 rm1
      have sm2 : (grow (redrawn wr dq) osq).cell? ⟨w.heap.size, 2, none⟩ = some (.int .i64 a.t.x) := keep1 hb5 rm2
      have sm3 : (grow (redrawn wr dq) osq).cell? ⟨w.heap.size, 3, none⟩ = some (.int .i64 a.t.y) := keep1 hb5 rm3
      have sm4 : (grow (redrawn wr dq) osq).cell? ⟨w.heap.size, 4, none⟩ = some (.int .i64 a.c) := keep1 hb5 rm4
      have sn0 : (grow (redrawn wr dq) osq).cell? ⟨w.heap.size + 1, 0, none⟩ = some (.int .i64 b.f.x) := keep1 hb5 rn0
      have sn1 : (grow (redrawn wr dq) osq).cell? ⟨w.heap.size + 1, 1, none⟩ = some (.int .i64 b.f.y) := keep1 hb5 rn1
      have sn2 : (grow (redrawn wr dq) osq).cell? ⟨w.heap.size + 1, 2, none⟩ = some (.int .i64 b.t.x) := keep1 hb5 rn2
      have sn3 : (grow (redrawn wr dq) osq).cell? ⟨w.heap.size + 1, 3, none⟩ = some (.int .i64 b.t.y) := keep1 hb5 rn3
      have sn4 : (grow (redrawn wr dq) osq).cell? ⟨w.heap.size + 1, 4, none⟩ = some (.int .i64 b.c) := keep1 hb5 rn4
      clear rm0 rm1 rm2 rm3 rm4 rn0 rn1 rn2 rn3 rn4 k4 C1
      have hb6 : Below W0.heap.size W0 (grow (redrawn wr dq) osq) := Below.next hb5 hbw hbw.size
      have hb7 : Below w.heap.size w (grow (redrawn wr dq) osq) := Below.next hb6 hW0 (by omega)
      have hsz3 := hb7.size
      clear hb5 hsz2
      generalize hW2 : grow (redrawn wr dq) osq = W2 at *
      clear hW2
      go_wp2_with (go_at_call 62; refine (mvPart_any _ _ (by omega) (by omega) (by omega) (by omega) _).mono ?_; rintro e w' ⟨rfl, hq⟩)
      go_ret2
      rw [← hkK, HS.out]
      exact ⟨rfl, Below.next hq hb7 (by omega)⟩

end Go.Proofs.YthehcjfljjfnmaaGreat
