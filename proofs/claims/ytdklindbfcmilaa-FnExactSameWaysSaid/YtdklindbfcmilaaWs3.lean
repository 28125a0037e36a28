/-
  Walks of laws: SameWays.
-/
import Derived.Test.YtdklindbfcmilaaShn
import Derived.Deep.RegionHeld3
namespace Go.Proofs.Ytdklindbfcmilaa
open Go.RowKit Go.Sort

theorem keepA {w : World} {o : Obj} {p : Addr} {v : Value} (h : w.cell? p = some v) : (w.alloc o).cell? p = some v := keep1 ((Below.refl _ _).alloc (Nat.le_refl _) o) h
theorem eqSpot_same (a : Sp) (w : World) : Calls Try.prog 19 #[.agg #[.int .i64 a.x, .int .i64 a.y], .agg #[.int .i64 a.x, .int .i64 a.y]] w fun e w' => e = .returned (.bool true) ∧ Below w.heap.size w w' :=
  (eqSpot_any a a w).mono fun e w' ⟨he, o1, o2, hw⟩ => ⟨by rw [he]; simp, by subst hw; exact ((Below.refl _ _).alloc (Nat.le_refl _) _).alloc (by simp) _⟩
theorem keepN8 {W w' : World} {p0 p1 p2 p3 p4 p5 p6 p7 : Addr} {v0 v1 v2 v3 v4 v5 v6 v7 : Value} (hq : Below W.heap.size W w') (h : W.cell? p0 = some v0 ∧ W.cell? p1 = some v1 ∧ W.cell? p2 = some v2 ∧ W.cell? p3 = some v3 ∧ W.cell? p4 = some v4 ∧ W.cell? p5 = some v5 ∧ W.cell? p6 = some v6 ∧ W.cell? p7 = some v7) : w'.cell? p0 = some v0 ∧ w'.cell? p1 = some v1 ∧ w'.cell? p2 = some v2 ∧ w'.cell? p3 = some v3 ∧ w'.cell? p4 = some v4 ∧ w'.cell? p5 = some v5 ∧ w'.cell? p6 = some v6 ∧ w'.cell? p7 = some v7 :=
  ⟨keep1 hq h.1, keep1 hq h.2.1, keep1 hq h.2.2.1, keep1 hq h.2.2.2.1, keep1 hq h.2.2.2.2.1, keep1 hq h.2.2.2.2.2.1, keep1 hq h.2.2.2.2.2.2.1, keep1 hq h.2.2.2.2.2.2.2⟩
theorem keepN16 {W w' : World} {p0 p1 p2 p3 p4 p5 p6 p7 p8 p9 p10 p11 p12 p13 p14 p15 : Addr} {v0 v1 v2 v3 v4 v5 v6 v7 v8 v9 v10 v11 v12 v13 v14 v15 : Value} (hq : Below W.heap.size W w') (h : W.cell? p0 = some v0 ∧ W.cell? p1 = some v1 ∧ W.cell? p2 = some v2 ∧ W.cell? p3 = some v3 ∧ W.cell? p4 = some v4 ∧ W.cell? p5 = some v5 ∧ W.cell? p6 = some v6 ∧ W.cell? p7 = some v7 ∧ W.cell? p8 = some v8 ∧ W.cell? p9 = some v9 ∧ W.cell? p10 = some v10 ∧ W.cell? p11 = some v11 ∧ W.cell? p12 = some v12 ∧ W.cell? p13 = some v13 ∧ W.cell? p14 = some v14 ∧ W.cell? p15 = some v15) : w'.cell? p0 = some v0 ∧ w'.cell? p1 = some v1 ∧ w'.cell? p2 = some v2 ∧ w'.cell? p3 = some v3 ∧ w'.cell? p4 = some v4 ∧ w'.cell? p5 = some v5 ∧ w'.cell? p6 = some v6 ∧ w'.cell? p7 = some v7 ∧ w'.cell? p8 = some v8 ∧ w'.cell? p9 = some v9 ∧ w'.cell? p10 = some v10 ∧ w'.cell? p11 = some v11 ∧ w'.cell? p12 = some v12 ∧ w'.cell? p13 = some v13 ∧ w'.cell? p14 = some v14 ∧ w'.cell? p15 = some v15 :=
  ⟨keep1 hq h.1, keep1 hq h.2.1, keep1 hq h.2.2.1, keep1 hq h.2.2.2.1, keep1 hq h.2.2.2.2.1, keep1 hq h.2.2.2.2.2.1, keep1 hq h.2.2.2.2.2.2.1, keep1 hq h.2.2.2.2.2.2.2.1, keep1 hq h.2.2.2.2.2.2.2.2.1, keep1 hq h.2.2.2.2.2.2.2.2.2.1, keep1 hq h.2.2.2.2.2.2.2.2.2.2.1, keep1 hq h.2.2.2.2.2.2.2.2.2.2.2.1, keep1 hq h.2.2.2.2.2.2.2.2.2.2.2.2.1, keep1 hq h.2.2.2.2.2.2.2.2.2.2.2.2.2.1, keep1 hq h.2.2.2.2.2.2.2.2.2.2.2.2.2.2.1, keep1 hq h.2.2.2.2.2.2.2.2.2.2.2.2.2.2.2⟩
set_option maxRecDepth 100000 in
set_option maxHeartbeats 3200000 in
theorem FnExactSameWays_walk (p0 : Int) (s0 : Sp) (A0 : Option Addr) (c0 : Nat) (L0 : List Rw) (p1 : Int) (s1 : Sp) (A1 : Option Addr) (c1 : Nat) (L1 : List Rw) (w : World) (m0 : Mem w A0 (rows L0)) (l0 : L0.length ≤ c0) (n0 : c0 ≤ maxLen) (m1 : Mem w A1 (rows L1)) (l1 : L1.length ≤ c1) (n1 : c1 ≤ maxLen) : Calls Try.prog 5 #[.agg #[.int .i64 p0, .int .i64 s0.x, .int .i64 s0.y, .slice A0 L0.length c0], .agg #[.int .i64 p1, .int .i64 s1.x, .int .i64 s1.y, .slice A1 L1.length c1]] w fun e w' => e = .returned (.bool true) ∧ Below w.heap.size w w' := by
  unfold maxLen at n0
  unfold maxLen at n1
  by_cases t0 : L0.length ≤ 1048576
  case neg =>
    go_enter Try.func5, Try.ntmps5
    go_wp2_with (first | (go_at_call 12; refine (szSheet_no _ _ _ _ _ _ _ (by omega) (by omega) (by omega) (by omega)).mono ?_; rintro e w' ⟨rfl, hq⟩; obtain ⟨hz, hc, hf⟩ := bel hq; (try simp at hz); (try simp at hz); (try have gz1 : w.heap.size < w'.heap.size := by omega); (try have gz2 : w.heap.size + 1 < w'.heap.size := by omega); (try have gz3 : wr.heap.size < w'.heap.size := by omega)) | (go_at_call 12; refine (szSheet_yes _ _ _ _ _ _ _ (by omega) (by omega) (by omega)).mono ?_; rintro e w' ⟨rfl, hq⟩; obtain ⟨hz, hc, hf⟩ := bel hq; (try simp at hz); (try simp at hz); (try have gz1 : w.heap.size < w'.heap.size := by omega); (try have gz2 : w.heap.size + 1 < w'.heap.size := by omega); (try have gz3 : wr.heap.size < w'.heap.size := by omega)))
    go_ret
    exact ⟨rfl, by (repeat (first | exact Below.refl _ _ | assumption | (refine Below.alloc ?_ (by first | omega | (simp; done) | (simp; omega)) _) | (refine Below.setCell ?_ (by first | omega | (simp; done) | (simp; omega)) _) | (refine Below.drew ?_) | (refine Below.drewN ?_ _) | (refine Below.next (by assumption) ?_ (by first | omega | (simp; done) | (simp; omega)))))⟩
  by_cases t1 : L0.length + L1.length ≤ 1048576
  case neg =>
    go_enter Try.func5, Try.ntmps5
    go_wp2_with (first | (go_at_call 12; refine (szSheet_no _ _ _ _ _ _ _ (by omega) (by omega) (by omega) (by omega)).mono ?_; rintro e w' ⟨rfl, hq⟩; obtain ⟨hz, hc, hf⟩ := bel hq; (try simp at hz); (try simp at hz); (try have gz1 : w.heap.size < w'.heap.size := by omega); (try have gz2 : w.heap.size + 1 < w'.heap.size := by omega); (try have gz3 : wr.heap.size < w'.heap.size := by omega)) | (go_at_call 12; refine (szSheet_yes _ _ _ _ _ _ _ (by omega) (by omega) (by omega)).mono ?_; rintro e w' ⟨rfl, hq⟩; obtain ⟨hz, hc, hf⟩ := bel hq; (try simp at hz); (try simp at hz); (try have gz1 : w.heap.size < w'.heap.size := by omega); (try have gz2 : w.heap.size + 1 < w'.heap.size := by omega); (try have gz3 : wr.heap.size < w'.heap.size := by omega)))
    go_ret
    exact ⟨rfl, by (repeat (first | exact Below.refl _ _ | assumption | (refine Below.alloc ?_ (by first | omega | (simp; done) | (simp; omega)) _) | (refine Below.setCell ?_ (by first | omega | (simp; done) | (simp; omega)) _) | (refine Below.drew ?_) | (refine Below.drewN ?_ _) | (refine Below.next (by assumption) ?_ (by first | omega | (simp; done) | (simp; omega)))))⟩
  have u0 : L0.length ≤ 1048576 := by omega
  have u1 : L1.length ≤ 1048576 := by omega
  go_enter Try.func5, Try.ntmps5
  go_wp2_with fail
  refine (szSheet_yes _ _ _ _ _ _ _ (by omega) (by omega) (by omega)).mono ?_
  rintro e w1 ⟨rfl, hq1⟩
  have f0_0_1 : w1.cell? ⟨w.heap.size, 0, none⟩ = some (.int .i64 p0) := keep1 hq1 (by first | (simp [go_sem]; done))
  have f0_1_1 : w1.cell? ⟨w.heap.size, 1, none⟩ = some (.int .i64 s0.x) := keep1 hq1 (by first | (simp [go_sem]; done))
  have f0_2_1 : w1.cell? ⟨w.heap.size, 2, none⟩ = some (.int .i64 s0.y) := keep1 hq1 (by first | (simp [go_sem]; done))
  have f0_3_1 : w1.cell? ⟨w.heap.size, 3, none⟩ = some (.slice A0 L0.length c0) := keep1 hq1 (by first | (simp [go_sem]; done))
  have f1_0_1 : w1.cell? ⟨w.heap.size + 1, 0, none⟩ = some (.int .i64 p1) := keep1 hq1 (by first | (simp [go_sem]; done))
  have f1_1_1 : w1.cell? ⟨w.heap.size + 1, 1, none⟩ = some (.int .i64 s1.x) := keep1 hq1 (by first | (simp [go_sem]; done))
  have f1_2_1 : w1.cell? ⟨w.heap.size + 1, 2, none⟩ = some (.int .i64 s1.y) := keep1 hq1 (by first | (simp [go_sem]; done))
  have f1_3_1 : w1.cell? ⟨w.heap.size + 1, 3, none⟩ = some (.slice A1 L1.length c1) := keep1 hq1 (by first | (simp [go_sem]; done))
  have g0_1 : w.heap.size < w1.heap.size := World.block_lt_of_cell? _ _ f0_0_1
  have g1_1 : w.heap.size + 1 < w1.heap.size := World.block_lt_of_cell? _ _ f1_0_1
  have hz1 := hq1.size
  (try simp at hz1)
  go_wp2_with fail
  refine (szSheet_yes _ _ _ _ _ _ _ (by omega) (by omega) (by omega)).mono ?_
  rintro e w2 ⟨rfl, hq2⟩
  have f0_0_2 : w2.cell? ⟨w.heap.size, 0, none⟩ = some (.int .i64 p0) := keep1 hq2 (by first | exact f0_0_1 | exact keepA f0_0_1 | exact keepA (keepA f0_0_1) | exact keepA (keepA (keepA f0_0_1)))
  have f0_1_2 : w2.cell? ⟨w.heap.size, 1, none⟩ = some (.int .i64 s0.x) := keep1 hq2 (by first | exact f0_1_1 | exact keepA f0_1_1 | exact keepA (keepA f0_1_1) | exact keepA (keepA (keepA f0_1_1)))
  have f0_2_2 : w2.cell? ⟨w.heap.size, 2, none⟩ = some (.int .i64 s0.y) := keep1 hq2 (by first | exact f0_2_1 | exact keepA f0_2_1 | exact keepA (keepA f0_2_1) | exact keepA (keepA (keepA f0_2_1)))
  have f0_3_2 : w2.cell? ⟨w.heap.size, 3, none⟩ = some (.slice A0 L0.length c0) := keep1 hq2 (by first | exact f0_3_1 | exact keepA f0_3_1 | exact keepA (keepA f0_3_1) | exact keepA (keepA (keepA f0_3_1)))
  have f1_0_2 : w2.cell? ⟨w.heap.size + 1, 0, none⟩ = some (.int .i64 p1) := keep1 hq2 (by first | exact f1_0_1 | exact keepA f1_0_1 | exact keepA (keepA f1_0_1) | exact keepA (keepA (keepA f1_0_1)))
  have f1_1_2 : w2.cell? ⟨w.heap.size + 1, 1, none⟩ = some (.int .i64 s1.x) := keep1 hq2 (by first | exact f1_1_1 | exact keepA f1_1_1 | exact keepA (keepA f1_1_1) | exact keepA (keepA (keepA f1_1_1)))
  have f1_2_2 : w2.cell? ⟨w.heap.size + 1, 2, none⟩ = some (.int .i64 s1.y) := keep1 hq2 (by first | exact f1_2_1 | exact keepA f1_2_1 | exact keepA (keepA f1_2_1) | exact keepA (keepA (keepA f1_2_1)))
  have f1_3_2 : w2.cell? ⟨w.heap.size + 1, 3, none⟩ = some (.slice A1 L1.length c1) := keep1 hq2 (by first | exact f1_3_1 | exact keepA f1_3_1 | exact keepA (keepA f1_3_1) | exact keepA (keepA (keepA f1_3_1)))
  have g0_2 : w.heap.size < w2.heap.size := World.block_lt_of_cell? _ _ f0_0_2
  have g1_2 : w.heap.size + 1 < w2.heap.size := World.block_lt_of_cell? _ _ f1_0_2
  clear f0_0_1 f0_1_1 f0_2_1 f0_3_1 f1_0_1 f1_1_1 f1_2_1 f1_3_1 g0_1 g1_1
  have hz2 := hq2.size
  (try simp at hz2)
  go_wp2_with fail
  go_region_held3 (fun w' => w'.cell? ⟨w.heap.size, 0, none⟩ = some (.int .i64 p0) ∧ w'.cell? ⟨w.heap.size, 1, none⟩ = some (.int .i64 s0.x) ∧ w'.cell? ⟨w.heap.size, 2, none⟩ = some (.int .i64 s0.y) ∧ w'.cell? ⟨w.heap.size, 3, none⟩ = some (.slice A0 L0.length c0) ∧ w'.cell? ⟨w.heap.size + 1, 0, none⟩ = some (.int .i64 p1) ∧ w'.cell? ⟨w.heap.size + 1, 1, none⟩ = some (.int .i64 s1.x) ∧ w'.cell? ⟨w.heap.size + 1, 2, none⟩ = some (.int .i64 s1.y) ∧ w'.cell? ⟨w.heap.size + 1, 3, none⟩ = some (.slice A1 L1.length c1)) (first | assumption | exact ⟨f0_0_2, f0_1_2, f0_2_2, f0_3_2, f1_0_2, f1_1_2, f1_2_2, f1_3_2⟩ | exact ⟨(keepA f0_0_2), (keepA f0_1_2), (keepA f0_2_2), (keepA f0_3_2), (keepA f1_0_2), (keepA f1_1_2), (keepA f1_2_2), (keepA f1_3_2)⟩ | exact ⟨(keepA (keepA f0_0_2)), (keepA (keepA f0_1_2)), (keepA (keepA f0_2_2)), (keepA (keepA f0_3_2)), (keepA (keepA f1_0_2)), (keepA (keepA f1_1_2)), (keepA (keepA f1_2_2)), (keepA (keepA f1_3_2))⟩) (first | (go_at_call 14; (with_reducible refine (toSheet_any p0 s0 _ _ L0 _ (m0.below (by (repeat (first | exact Below.refl _ _ | assumption | (refine Below.alloc ?_ (by first | omega | (simp; done) | (simp; omega)) _) | (refine Below.setCell ?_ (by first | omega | (simp; done) | (simp; omega)) _) | (refine Below.drew ?_) | (refine Below.drewN ?_ _) | (refine Below.next (by assumption) ?_ (by first | omega | (simp; done) | (simp; omega))))))) (by omega)).mono ?_); rintro e w3 ⟨A3r, c3r, rfl, ho3, hq3⟩; have hz3 := hq3.size; (try simp at hz3); have hS3 := keepN8 hq3 (by assumption)) | (go_at_call 14; (with_reducible refine (toSheet_any p1 s1 _ _ L1 _ (m1.below (by (repeat (first | exact Below.refl _ _ | assumption | (refine Below.alloc ?_ (by first | omega | (simp; done) | (simp; omega)) _) | (refine Below.setCell ?_ (by first | omega | (simp; done) | (simp; omega)) _) | (refine Below.drew ?_) | (refine Below.drewN ?_ _) | (refine Below.next (by assumption) ?_ (by first | omega | (simp; done) | (simp; omega))))))) (by omega)).mono ?_); rintro e w4 ⟨A4r, c4r, rfl, ho4, hq4⟩; have hz4 := hq4.size; (try simp at hz4); have hS4 := keepN8 hq4 (by assumption)) | (go_at_call 20; (with_reducible refine (spec_SameWays_any p0 s0 _ _ L0 p1 s1 _ _ L1 _ (Mem.below (Mem.of_own ho3) (by (repeat (first | exact Below.refl _ _ | assumption | (refine Below.alloc ?_ (by first | omega | (simp; done) | (simp; omega)) _) | (refine Below.setCell ?_ (by first | omega | (simp; done) | (simp; omega)) _) | (refine Below.drew ?_) | (refine Below.drewN ?_ _) | (refine Below.next (by assumption) ?_ (by first | omega | (simp; done) | (simp; omega))))))) (Mem.below (Mem.of_own ho4) (by (repeat (first | exact Below.refl _ _ | assumption | (refine Below.alloc ?_ (by first | omega | (simp; done) | (simp; omega)) _) | (refine Below.setCell ?_ (by first | omega | (simp; done) | (simp; omega)) _) | (refine Below.drew ?_) | (refine Below.drewN ?_ _) | (refine Below.next (by assumption) ?_ (by first | omega | (simp; done) | (simp; omega))))))) u0 u1).mono ?_); rintro e w5 ⟨rfl, hq5⟩; have hz5 := hq5.size; (try simp at hz5); have hS5 := keepN8 hq5 (by assumption)))
  obtain ⟨f0_0_5, f0_1_5, f0_2_5, f0_3_5, f1_0_5, f1_1_5, f1_2_5, f1_3_5⟩ := hS5
  clear f0_0_2 f0_1_2 f0_2_2 f0_3_2 f1_0_2 f1_1_2 f1_2_2 f1_3_2 hS3 hS4
  have g0_5 : w.heap.size < w5.heap.size := World.block_lt_of_cell? _ _ f0_0_5
  have g1_5 : w.heap.size + 1 < w5.heap.size := World.block_lt_of_cell? _ _ f1_0_5
  clear g0_2 g1_2
  go_wp2_with fail
  refine (toSheet_any p0 s0 _ _ L0 _ (m0.below (by (repeat (first | exact Below.refl _ _ | assumption | (refine Below.alloc ?_ (by first | omega | (simp; done) | (simp; omega)) _) | (refine Below.setCell ?_ (by first | omega | (simp; done) | (simp; omega)) _) | (refine Below.drew ?_) | (refine Below.drewN ?_ _) | (refine Below.next (by assumption) ?_ (by first | omega | (simp; done) | (simp; omega))))))) (by omega)).mono ?_
  rintro e w6 ⟨A6r, c6r, rfl, ho6, hq6⟩
  have f0_0_6 : w6.cell? ⟨w.heap.size, 0, none⟩ = some (.int .i64 p0) := keep1 hq6 (by first | exact f0_0_5 | exact keepA f0_0_5 | exact keepA (keepA f0_0_5) | exact keepA (keepA (keepA f0_0_5)))
  have f0_1_6 : w6.cell? ⟨w.heap.size, 1, none⟩ = some (.int .i64 s0.x) := keep1 hq6 (by first | exact f0_1_5 | exact keepA f0_1_5 | exact keepA (keepA f0_1_5) | exact keepA (keepA (keepA f0_1_5)))
  have f0_2_6 : w6.cell? ⟨w.heap.size, 2, none⟩ = some (.int .i64 s0.y) := keep1 hq6 (by first | exact f0_2_5 | exact keepA f0_2_5 | exact keepA (keepA f0_2_5) | exact keepA (keepA (keepA f0_2_5)))
  have f0_3_6 : w6.cell? ⟨w.heap.size, 3, none⟩ = some (.slice A0 L0.length c0) := keep1 hq6 (by first | exact f0_3_5 | exact keepA f0_3_5 | exact keepA (keepA f0_3_5) | exact keepA (keepA (keepA f0_3_5)))
  have f1_0_6 : w6.cell? ⟨w.heap.size + 1, 0, none⟩ = some (.int .i64 p1) := keep1 hq6 (by first | exact f1_0_5 | exact keepA f1_0_5 | exact keepA (keepA f1_0_5) | exact keepA (keepA (keepA f1_0_5)))
  have f1_1_6 : w6.cell? ⟨w.heap.size + 1, 1, none⟩ = some (.int .i64 s1.x) := keep1 hq6 (by first | exact f1_1_5 | exact keepA f1_1_5 | exact keepA (keepA f1_1_5) | exact keepA (keepA (keepA f1_1_5)))
  have f1_2_6 : w6.cell? ⟨w.heap.size + 1, 2, none⟩ = some (.int .i64 s1.y) := keep1 hq6 (by first | exact f1_2_5 | exact keepA f1_2_5 | exact keepA (keepA f1_2_5) | exact keepA (keepA (keepA f1_2_5)))
  have f1_3_6 : w6.cell? ⟨w.heap.size + 1, 3, none⟩ = some (.slice A1 L1.length c1) := keep1 hq6 (by first | exact f1_3_5 | exact keepA f1_3_5 | exact keepA (keepA f1_3_5) | exact keepA (keepA (keepA f1_3_5)))
  have g0_6 : w.heap.size < w6.heap.size := World.block_lt_of_cell? _ _ f0_0_6
  have g1_6 : w.heap.size + 1 < w6.heap.size := World.block_lt_of_cell? _ _ f1_0_6
  clear f0_0_5 f0_1_5 f0_2_5 f0_3_5 f1_0_5 f1_1_5 f1_2_5 f1_3_5 g0_5 g1_5
  have hz6 := hq6.size
  (try simp at hz6)
  go_wp2_with fail
  refine (toSheet_any p1 s1 _ _ L1 _ (m1.below (by (repeat (first | exact Below.refl _ _ | assumption | (refine Below.alloc ?_ (by first | omega | (simp; done) | (simp; omega)) _) | (refine Below.setCell ?_ (by first | omega | (simp; done) | (simp; omega)) _) | (refine Below.drew ?_) | (refine Below.drewN ?_ _) | (refine Below.next (by assumption) ?_ (by first | omega | (simp; done) | (simp; omega))))))) (by omega)).mono ?_
  rintro e w7 ⟨A7r, c7r, rfl, ho7, hq7⟩
  have f0_0_7 : w7.cell? ⟨w.heap.size, 0, none⟩ = some (.int .i64 p0) := keep1 hq7 (by first | exact f0_0_6 | exact keepA f0_0_6 | exact keepA (keepA f0_0_6) | exact keepA (keepA (keepA f0_0_6)))
  have f0_1_7 : w7.cell? ⟨w.heap.size, 1, none⟩ = some (.int .i64 s0.x) := keep1 hq7 (by first | exact f0_1_6 | exact keepA f0_1_6 | exact keepA (keepA f0_1_6) | exact keepA (keepA (keepA f0_1_6)))
  have f0_2_7 : w7.cell? ⟨w.heap.size, 2, none⟩ = some (.int .i64 s0.y) := keep1 hq7 (by first | exact f0_2_6 | exact keepA f0_2_6 | exact keepA (keepA f0_2_6) | exact keepA (keepA (keepA f0_2_6)))
  have f0_3_7 : w7.cell? ⟨w.heap.size, 3, none⟩ = some (.slice A0 L0.length c0) := keep1 hq7 (by first | exact f0_3_6 | exact keepA f0_3_6 | exact keepA (keepA f0_3_6) | exact keepA (keepA (keepA f0_3_6)))
  have f1_0_7 : w7.cell? ⟨w.heap.size + 1, 0, none⟩ = some (.int .i64 p1) := keep1 hq7 (by first | exact f1_0_6 | exact keepA f1_0_6 | exact keepA (keepA f1_0_6) | exact keepA (keepA (keepA f1_0_6)))
  have f1_1_7 : w7.cell? ⟨w.heap.size + 1, 1, none⟩ = some (.int .i64 s1.x) := keep1 hq7 (by first | exact f1_1_6 | exact keepA f1_1_6 | exact keepA (keepA f1_1_6) | exact keepA (keepA (keepA f1_1_6)))
  have f1_2_7 : w7.cell? ⟨w.heap.size + 1, 2, none⟩ = some (.int .i64 s1.y) := keep1 hq7 (by first | exact f1_2_6 | exact keepA f1_2_6 | exact keepA (keepA f1_2_6) | exact keepA (keepA (keepA f1_2_6)))
  have f1_3_7 : w7.cell? ⟨w.heap.size + 1, 3, none⟩ = some (.slice A1 L1.length c1) := keep1 hq7 (by first | exact f1_3_6 | exact keepA f1_3_6 | exact keepA (keepA f1_3_6) | exact keepA (keepA (keepA f1_3_6)))
  have f2_0_7 : w7.cell? ⟨w6.heap.size, 0, none⟩ = some (.int .i64 p0) := keep1 hq7 (by first | (simp [go_sem]; done))
  have f2_1_7 : w7.cell? ⟨w6.heap.size, 1, none⟩ = some (.int .i64 s0.x) := keep1 hq7 (by first | (simp [go_sem]; done))
  have f2_2_7 : w7.cell? ⟨w6.heap.size, 2, none⟩ = some (.int .i64 s0.y) := keep1 hq7 (by first | (simp [go_sem]; done))
  have f2_3_7 : w7.cell? ⟨w6.heap.size, 3, none⟩ = some (.slice A6r L0.length c6r) := keep1 hq7 (by first | (simp [go_sem]; done))
  have g0_7 : w.heap.size < w7.heap.size := World.block_lt_of_cell? _ _ f0_0_7
  have g1_7 : w.heap.size + 1 < w7.heap.size := World.block_lt_of_cell? _ _ f1_0_7
  have g2_7 : w6.heap.size < w7.heap.size := World.block_lt_of_cell? _ _ f2_0_7
  clear f0_0_6 f0_1_6 f0_2_6 f0_3_6 f1_0_6 f1_1_6 f1_2_6 f1_3_6 g0_6 g1_6
  have hz7 := hq7.size
  (try simp at hz7)
  go_wp2_with fail
  refine (impl_SameWays_any p0 s0 _ _ L0 p1 s1 _ _ L1 _ (Mem.below (Mem.of_own ho6) (by (repeat (first | exact Below.refl _ _ | assumption | (refine Below.alloc ?_ (by first | omega | (simp; done) | (simp; omega)) _) | (refine Below.setCell ?_ (by first | omega | (simp; done) | (simp; omega)) _) | (refine Below.drew ?_) | (refine Below.drewN ?_ _) | (refine Below.next (by assumption) ?_ (by first | omega | (simp; done) | (simp; omega))))))) (Mem.below (Mem.of_own ho7) (by (repeat (first | exact Below.refl _ _ | assumption | (refine Below.alloc ?_ (by first | omega | (simp; done) | (simp; omega)) _) | (refine Below.setCell ?_ (by first | omega | (simp; done) | (simp; omega)) _) | (refine Below.drew ?_) | (refine Below.drewN ?_ _) | (refine Below.next (by assumption) ?_ (by first | omega | (simp; done) | (simp; omega))))))) u0 u1).mono ?_
  rintro e w8 ⟨rfl, hq8⟩
  have f0_0_8 : w8.cell? ⟨w.heap.size, 0, none⟩ = some (.int .i64 p0) := keep1 hq8 (by first | exact f0_0_7 | exact keepA f0_0_7 | exact keepA (keepA f0_0_7) | exact keepA (keepA (keepA f0_0_7)))
  have f0_1_8 : w8.cell? ⟨w.heap.size, 1, none⟩ = some (.int .i64 s0.x) := keep1 hq8 (by first | exact f0_1_7 | exact keepA f0_1_7 | exact keepA (keepA f0_1_7) | exact keepA (keepA (keepA f0_1_7)))
  have f0_2_8 : w8.cell? ⟨w.heap.size, 2, none⟩ = some (.int .i64 s0.y) := keep1 hq8 (by first | exact f0_2_7 | exact keepA f0_2_7 | exact keepA (keepA f0_2_7) | exact keepA (keepA (keepA f0_2_7)))
  have f0_3_8 : w8.cell? ⟨w.heap.size, 3, none⟩ = some (.slice A0 L0.length c0) := keep1 hq8 (by first | exact f0_3_7 | exact keepA f0_3_7 | exact keepA (keepA f0_3_7) | exact keepA (keepA (keepA f0_3_7)))
  have f1_0_8 : w8.cell? ⟨w.heap.size + 1, 0, none⟩ = some (.int .i64 p1) := keep1 hq8 (by first | exact f1_0_7 | exact keepA f1_0_7 | exact keepA (keepA f1_0_7) | exact keepA (keepA (keepA f1_0_7)))
  have f1_1_8 : w8.cell? ⟨w.heap.size + 1, 1, none⟩ = some (.int .i64 s1.x) := keep1 hq8 (by first | exact f1_1_7 | exact keepA f1_1_7 | exact keepA (keepA f1_1_7) | exact keepA (keepA (keepA f1_1_7)))
  have f1_2_8 : w8.cell? ⟨w.heap.size + 1, 2, none⟩ = some (.int .i64 s1.y) := keep1 hq8 (by first | exact f1_2_7 | exact keepA f1_2_7 | exact keepA (keepA f1_2_7) | exact keepA (keepA (keepA f1_2_7)))
  have f1_3_8 : w8.cell? ⟨w.heap.size + 1, 3, none⟩ = some (.slice A1 L1.length c1) := keep1 hq8 (by first | exact f1_3_7 | exact keepA f1_3_7 | exact keepA (keepA f1_3_7) | exact keepA (keepA (keepA f1_3_7)))
  have f2_0_8 : w8.cell? ⟨w6.heap.size, 0, none⟩ = some (.int .i64 p0) := keep1 hq8 (by first | exact f2_0_7 | exact keepA f2_0_7 | exact keepA (keepA f2_0_7) | exact keepA (keepA (keepA f2_0_7)))
  have f2_1_8 : w8.cell? ⟨w6.heap.size, 1, none⟩ = some (.int .i64 s0.x) := keep1 hq8 (by first | exact f2_1_7 | exact keepA f2_1_7 | exact keepA (keepA f2_1_7) | exact keepA (keepA (keepA f2_1_7)))
  have f2_2_8 : w8.cell? ⟨w6.heap.size, 2, none⟩ = some (.int .i64 s0.y) := keep1 hq8 (by first | exact f2_2_7 | exact keepA f2_2_7 | exact keepA (keepA f2_2_7) | exact keepA (keepA (keepA f2_2_7)))
  have f2_3_8 : w8.cell? ⟨w6.heap.size, 3, none⟩ = some (.slice A6r L0.length c6r) := keep1 hq8 (by first | exact f2_3_7 | exact keepA f2_3_7 | exact keepA (keepA f2_3_7) | exact keepA (keepA (keepA f2_3_7)))
  have f3_0_8 : w8.cell? ⟨w7.heap.size, 0, none⟩ = some (.int .i64 p1) := keep1 hq8 (by first | (simp [go_sem]; done))
  have f3_1_8 : w8.cell? ⟨w7.heap.size, 1, none⟩ = some (.int .i64 s1.x) := keep1 hq8 (by first | (simp [go_sem]; done))
  have f3_2_8 : w8.cell? ⟨w7.heap.size, 2, none⟩ = some (.int .i64 s1.y) := keep1 hq8 (by first | (simp [go_sem]; done))
  have f3_3_8 : w8.cell? ⟨w7.heap.size, 3, none⟩ = some (.slice A7r L1.length c7r) := keep1 hq8 (by first | (simp [go_sem]; done))
  have g0_8 : w.heap.size < w8.heap.size := World.block_lt_of_cell? _ _ f0_0_8
  have g1_8 : w.heap.size + 1 < w8.heap.size := World.block_lt_of_cell? _ _ f1_0_8
  have g2_8 : w6.heap.size < w8.heap.size := World.block_lt_of_cell? _ _ f2_0_8
  have g3_8 : w7.heap.size < w8.heap.size := World.block_lt_of_cell? _ _ f3_0_8
  clear f0_0_7 f0_1_7 f0_2_7 f0_3_7 f1_0_7 f1_1_7 f1_2_7 f1_3_7 f2_0_7 f2_1_7 f2_2_7 f2_3_7 g0_7 g1_7 g2_7
  have hz8 := hq8.size
  (try simp at hz8)
  go_wp2_with fail
  go_region_held3 (fun w' => w'.cell? ⟨w.heap.size, 0, none⟩ = some (.int .i64 p0) ∧ w'.cell? ⟨w.heap.size, 1, none⟩ = some (.int .i64 s0.x) ∧ w'.cell? ⟨w.heap.size, 2, none⟩ = some (.int .i64 s0.y) ∧ w'.cell? ⟨w.heap.size, 3, none⟩ = some (.slice A0 L0.length c0) ∧ w'.cell? ⟨w.heap.size + 1, 0, none⟩ = some (.int .i64 p1) ∧ w'.cell? ⟨w.heap.size + 1, 1, none⟩ = some (.int .i64 s1.x) ∧ w'.cell? ⟨w.heap.size + 1, 2, none⟩ = some (.int .i64 s1.y) ∧ w'.cell? ⟨w.heap.size + 1, 3, none⟩ = some (.slice A1 L1.length c1) ∧ w'.cell? ⟨w6.heap.size, 0, none⟩ = some (.int .i64 p0) ∧ w'.cell? ⟨w6.heap.size, 1, none⟩ = some (.int .i64 s0.x) ∧ w'.cell? ⟨w6.heap.size, 2, none⟩ = some (.int .i64 s0.y) ∧ w'.cell? ⟨w6.heap.size, 3, none⟩ = some (.slice A6r L0.length c6r) ∧ w'.cell? ⟨w7.heap.size, 0, none⟩ = some (.int .i64 p1) ∧ w'.cell? ⟨w7.heap.size, 1, none⟩ = some (.int .i64 s1.x) ∧ w'.cell? ⟨w7.heap.size, 2, none⟩ = some (.int .i64 s1.y) ∧ w'.cell? ⟨w7.heap.size, 3, none⟩ = some (.slice A7r L1.length c7r)) (first | assumption | exact ⟨f0_0_8, f0_1_8, f0_2_8, f0_3_8, f1_0_8, f1_1_8, f1_2_8, f1_3_8, f2_0_8, f2_1_8, f2_2_8, f2_3_8, f3_0_8, f3_1_8, f3_2_8, f3_3_8⟩ | exact ⟨(keepA f0_0_8), (keepA f0_1_8), (keepA f0_2_8), (keepA f0_3_8), (keepA f1_0_8), (keepA f1_1_8), (keepA f1_2_8), (keepA f1_3_8), (keepA f2_0_8), (keepA f2_1_8), (keepA f2_2_8), (keepA f2_3_8), (keepA f3_0_8), (keepA f3_1_8), (keepA f3_2_8), (keepA f3_3_8)⟩ | exact ⟨(keepA (keepA f0_0_8)), (keepA (keepA f0_1_8)), (keepA (keepA f0_2_8)), (keepA (keepA f0_3_8)), (keepA (keepA f1_0_8)), (keepA (keepA f1_1_8)), (keepA (keepA f1_2_8)), (keepA (keepA f1_3_8)), (keepA (keepA f2_0_8)), (keepA (keepA f2_1_8)), (keepA (keepA f2_2_8)), (keepA (keepA f2_3_8)), (keepA (keepA f3_0_8)), (keepA (keepA f3_1_8)), (keepA (keepA f3_2_8)), (keepA (keepA f3_3_8))⟩) (first | (go_at_call 14; (with_reducible refine (toSheet_any p0 s0 _ _ L0 _ (m0.below (by (repeat (first | exact Below.refl _ _ | assumption | (refine Below.alloc ?_ (by first | omega | (simp; done) | (simp; omega)) _) | (refine Below.setCell ?_ (by first | omega | (simp; done) | (simp; omega)) _) | (refine Below.drew ?_) | (refine Below.drewN ?_ _) | (refine Below.next (by assumption) ?_ (by first | omega | (simp; done) | (simp; omega))))))) (by omega)).mono ?_); rintro e w9 ⟨A9r, c9r, rfl, ho9, hq9⟩; have hz9 := hq9.size; (try simp at hz9); have hS9 := keepN16 hq9 (by assumption)) | (go_at_call 16; (with_reducible refine (eqSheet_any p0 p0 s0 s0 _ _ _ _ L0 L0 _ (Mem.below (Mem.of_own ho6) (by (repeat (first | exact Below.refl _ _ | assumption | (refine Below.alloc ?_ (by first | omega | (simp; done) | (simp; omega)) _) | (refine Below.setCell ?_ (by first | omega | (simp; done) | (simp; omega)) _) | (refine Below.drew ?_) | (refine Below.drewN ?_ _) | (refine Below.next (by assumption) ?_ (by first | omega | (simp; done) | (simp; omega))))))) (Mem.below (Mem.of_own ho9) (by (repeat (first | exact Below.refl _ _ | assumption | (refine Below.alloc ?_ (by first | omega | (simp; done) | (simp; omega)) _) | (refine Below.setCell ?_ (by first | omega | (simp; done) | (simp; omega)) _) | (refine Below.drew ?_) | (refine Below.drewN ?_ _) | (refine Below.next (by assumption) ?_ (by first | omega | (simp; done) | (simp; omega))))))) (by omega) (by omega)).mono ?_); rintro e w10 ⟨he, hq10⟩; rw [shEq_same] at he; subst he; have hz10 := hq10.size; (try simp at hz10); have hS10 := keepN16 hq10 (by assumption)))
  obtain ⟨f0_0_10, f0_1_10, f0_2_10, f0_3_10, f1_0_10, f1_1_10, f1_2_10, f1_3_10, f2_0_10, f2_1_10, f2_2_10, f2_3_10, f3_0_10, f3_1_10, f3_2_10, f3_3_10⟩ := hS10
  clear f0_0_8 f0_1_8 f0_2_8 f0_3_8 f1_0_8 f1_1_8 f1_2_8 f1_3_8 f2_0_8 f2_1_8 f2_2_8 f2_3_8 f3_0_8 f3_1_8 f3_2_8 f3_3_8 hS9
  have g0_10 : w.heap.size < w10.heap.size := World.block_lt_of_cell? _ _ f0_0_10
  have g1_10 : w.heap.size + 1 < w10.heap.size := World.block_lt_of_cell? _ _ f1_0_10
  have g2_10 : w6.heap.size < w10.heap.size := World.block_lt_of_cell? _ _ f2_0_10
  have g3_10 : w7.heap.size < w10.heap.size := World.block_lt_of_cell? _ _ f3_0_10
  clear g0_8 g1_8 g2_8 g3_8
  go_wp2_with fail
  go_region_held3 (fun w' => w'.cell? ⟨w.heap.size, 0, none⟩ = some (.int .i64 p0) ∧ w'.cell? ⟨w.heap.size, 1, none⟩ = some (.int .i64 s0.x) ∧ w'.cell? ⟨w.heap.size, 2, none⟩ = some (.int .i64 s0.y) ∧ w'.cell? ⟨w.heap.size, 3, none⟩ = some (.slice A0 L0.length c0) ∧ w'.cell? ⟨w.heap.size + 1, 0, none⟩ = some (.int .i64 p1) ∧ w'.cell? ⟨w.heap.size + 1, 1, none⟩ = some (.int .i64 s1.x) ∧ w'.cell? ⟨w.heap.size + 1, 2, none⟩ = some (.int .i64 s1.y) ∧ w'.cell? ⟨w.heap.size + 1, 3, none⟩ = some (.slice A1 L1.length c1) ∧ w'.cell? ⟨w6.heap.size, 0, none⟩ = some (.int .i64 p0) ∧ w'.cell? ⟨w6.heap.size, 1, none⟩ = some (.int .i64 s0.x) ∧ w'.cell? ⟨w6.heap.size, 2, none⟩ = some (.int .i64 s0.y) ∧ w'.cell? ⟨w6.heap.size, 3, none⟩ = some (.slice A6r L0.length c6r) ∧ w'.cell? ⟨w7.heap.size, 0, none⟩ = some (.int .i64 p1) ∧ w'.cell? ⟨w7.heap.size, 1, none⟩ = some (.int .i64 s1.x) ∧ w'.cell? ⟨w7.heap.size, 2, none⟩ = some (.int .i64 s1.y) ∧ w'.cell? ⟨w7.heap.size, 3, none⟩ = some (.slice A7r L1.length c7r)) (first | assumption | exact ⟨f0_0_10, f0_1_10, f0_2_10, f0_3_10, f1_0_10, f1_1_10, f1_2_10, f1_3_10, f2_0_10, f2_1_10, f2_2_10, f2_3_10, f3_0_10, f3_1_10, f3_2_10, f3_3_10⟩ | exact ⟨(keepA f0_0_10), (keepA f0_1_10), (keepA f0_2_10), (keepA f0_3_10), (keepA f1_0_10), (keepA f1_1_10), (keepA f1_2_10), (keepA f1_3_10), (keepA f2_0_10), (keepA f2_1_10), (keepA f2_2_10), (keepA f2_3_10), (keepA f3_0_10), (keepA f3_1_10), (keepA f3_2_10), (keepA f3_3_10)⟩ | exact ⟨(keepA (keepA f0_0_10)), (keepA (keepA f0_1_10)), (keepA (keepA f0_2_10)), (keepA (keepA f0_3_10)), (keepA (keepA f1_0_10)), (keepA (keepA f1_1_10)), (keepA (keepA f1_2_10)), (keepA (keepA f1_3_10)), (keepA (keepA f2_0_10)), (keepA (keepA f2_1_10)), (keepA (keepA f2_2_10)), (keepA (keepA f2_3_10)), (keepA (keepA f3_0_10)), (keepA (keepA f3_1_10)), (keepA (keepA f3_2_10)), (keepA (keepA f3_3_10))⟩) (first | (go_at_call 14; (with_reducible refine (toSheet_any p1 s1 _ _ L1 _ (m1.below (by (repeat (first | exact Below.refl _ _ | assumption | (refine Below.alloc ?_ (by first | omega | (simp; done) | (simp; omega)) _) | (refine Below.setCell ?_ (by first | omega | (simp; done) | (simp; omega)) _) | (refine Below.drew ?_) | (refine Below.drewN ?_ _) | (refine Below.next (by assumption) ?_ (by first | omega | (simp; done) | (simp; omega))))))) (by omega)).mono ?_); rintro e w11 ⟨A11r, c11r, rfl, ho11, hq11⟩; have hz11 := hq11.size; (try simp at hz11); have hS11 := keepN16 hq11 (by assumption)) | (go_at_call 16; (with_reducible refine (eqSheet_any p1 p1 s1 s1 _ _ _ _ L1 L1 _ (Mem.below (Mem.of_own ho7) (by (repeat (first | exact Below.refl _ _ | assumption | (refine Below.alloc ?_ (by first | omega | (simp; done) | (simp; omega)) _) | (refine Below.setCell ?_ (by first | omega | (simp; done) | (simp; omega)) _) | (refine Below.drew ?_) | (refine Below.drewN ?_ _) | (refine Below.next (by assumption) ?_ (by first | omega | (simp; done) | (simp; omega))))))) (Mem.below (Mem.of_own ho11) (by (repeat (first | exact Below.refl _ _ | assumption | (refine Below.alloc ?_ (by first | omega | (simp; done) | (simp; omega)) _) | (refine Below.setCell ?_ (by first | omega | (simp; done) | (simp; omega)) _) | (refine Below.drew ?_) | (refine Below.drewN ?_ _) | (refine Below.next (by assumption) ?_ (by first | omega | (simp; done) | (simp; omega))))))) (by omega) (by omega)).mono ?_); rintro e w12 ⟨he, hq12⟩; rw [shEq_same] at he; subst he; have hz12 := hq12.size; (try simp at hz12); have hS12 := keepN16 hq12 (by assumption)))
  obtain ⟨f0_0_12, f0_1_12, f0_2_12, f0_3_12, f1_0_12, f1_1_12, f1_2_12, f1_3_12, f2_0_12, f2_1_12, f2_2_12, f2_3_12, f3_0_12, f3_1_12, f3_2_12, f3_3_12⟩ := hS12
  clear f0_0_10 f0_1_10 f0_2_10 f0_3_10 f1_0_10 f1_1_10 f1_2_10 f1_3_10 f2_0_10 f2_1_10 f2_2_10 f2_3_10 f3_0_10 f3_1_10 f3_2_10 f3_3_10 hS11
  have g0_12 : w.heap.size < w12.heap.size := World.block_lt_of_cell? _ _ f0_0_12
  have g1_12 : w.heap.size + 1 < w12.heap.size := World.block_lt_of_cell? _ _ f1_0_12
  have g2_12 : w6.heap.size < w12.heap.size := World.block_lt_of_cell? _ _ f2_0_12
  have g3_12 : w7.heap.size < w12.heap.size := World.block_lt_of_cell? _ _ f3_0_12
  clear g0_10 g1_10 g2_10 g3_10
  go_wp2_with fail
  go_ret
  exact ⟨rfl, by (repeat (first | exact Below.refl _ _ | assumption | (refine Below.alloc ?_ (by first | omega | (simp; done) | (simp; omega)) _) | (refine Below.setCell ?_ (by first | omega | (simp; done) | (simp; omega)) _) | (refine Below.drew ?_) | (refine Below.drewN ?_ _) | (refine Below.next (by assumption) ?_ (by first | omega | (simp; done) | (simp; omega)))))⟩
end Go.Proofs.Ytdklindbfcmilaa
