/-
  The walk of the exact law of a sheet's text.
-/
import Derived.Test.YtdmgffcabjpihaaDoorSti
import Derived.Deep.RegionHeld3
namespace Go.Proofs.YtdmgffcabjpihaaDoor
open Go.RowKit Go.Sort

theorem keepA {w : World} {o : Obj} {p : Addr} {v : Value} (h : w.cell? p = some v) : (w.alloc o).cell? p = some v := keep1 ((Below.refl _ _).alloc (Nat.le_refl _) o) h
theorem eqSpot_same (a : Sp) (w : World) : Calls Tryd.prog 21 #[.agg #[.int .i64 a.x, .int .i64 a.y], .agg #[.int .i64 a.x, .int .i64 a.y]] w fun e w' => e = .returned (.bool true) ∧ Below w.heap.size w w' :=
  (eqSpot_any a a w).mono fun e w' ⟨he, o1, o2, hw⟩ => ⟨by rw [he]; simp, by subst hw; exact ((Below.refl _ _).alloc (Nat.le_refl _) _).alloc (by simp) _⟩
theorem keepN8 {W w' : World} {p0 p1 p2 p3 p4 p5 p6 p7 : Addr} {v0 v1 v2 v3 v4 v5 v6 v7 : Value} (hq : Below W.heap.size W w') (h : W.cell? p0 = some v0 ∧ W.cell? p1 = some v1 ∧ W.cell? p2 = some v2 ∧ W.cell? p3 = some v3 ∧ W.cell? p4 = some v4 ∧ W.cell? p5 = some v5 ∧ W.cell? p6 = some v6 ∧ W.cell? p7 = some v7) : w'.cell? p0 = some v0 ∧ w'.cell? p1 = some v1 ∧ w'.cell? p2 = some v2 ∧ w'.cell? p3 = some v3 ∧ w'.cell? p4 = some v4 ∧ w'.cell? p5 = some v5 ∧ w'.cell? p6 = some v6 ∧ w'.cell? p7 = some v7 :=
  ⟨keep1 hq h.1, keep1 hq h.2.1, keep1 hq h.2.2.1, keep1 hq h.2.2.2.1, keep1 hq h.2.2.2.2.1, keep1 hq h.2.2.2.2.2.1, keep1 hq h.2.2.2.2.2.2.1, keep1 hq h.2.2.2.2.2.2.2⟩
set_option maxHeartbeats 3200000 in
set_option maxRecDepth 100000 in
theorem FnExactSheetText_walk (p0 : Int) (s0 : Sp) (A0 : Option Addr) (c0 : Nat) (L0 : List Rw) (w : World) (m0 : Mem w A0 (rows L0)) (l0 : L0.length ≤ c0) (n0 : c0 ≤ maxLen) (ht : Tab w) : Calls Tryd.prog 3 #[.agg #[.int .i64 p0, .int .i64 s0.x, .int .i64 s0.y, .slice A0 L0.length c0]] w fun e w' => e = .returned (.bool true) ∧ Below w.heap.size w w' := by
  unfold maxLen at n0
  by_cases t0 : L0.length ≤ 1048576
  case neg =>
    go_enter Tryd.func3, Tryd.ntmps3
    go_wp2_with (first | (go_at_call 5; refine (szSheet_no _ _ _ _ _ _ _ (by omega) (by omega) (by omega) (by omega)).mono ?_; rintro e w' ⟨rfl, hq⟩; obtain ⟨hz, hc, hf⟩ := bel hq; (try simp at hz); (try simp at hz); (try have gz1 : w.heap.size < w'.heap.size := by omega); (try have gz2 : w.heap.size + 1 < w'.heap.size := by omega); (try have gz3 : wr.heap.size < w'.heap.size := by omega)) | (go_at_call 5; refine (szSheet_yes _ _ _ _ _ _ _ (by omega) (by omega) (by omega)).mono ?_; rintro e w' ⟨rfl, hq⟩; obtain ⟨hz, hc, hf⟩ := bel hq; (try simp at hz); (try simp at hz); (try have gz1 : w.heap.size < w'.heap.size := by omega); (try have gz2 : w.heap.size + 1 < w'.heap.size := by omega); (try have gz3 : wr.heap.size < w'.heap.size := by omega)))
    go_ret
    exact ⟨rfl, by (repeat (first | exact Below.refl _ _ | assumption | (refine Below.alloc ?_ (by first | omega | (simp; done) | (simp; omega)) _) | (refine Below.setCell ?_ (by first | omega | (simp; done) | (simp; omega)) _) | (refine Below.drew ?_) | (refine Below.drewN ?_ _) | (refine Below.next (by assumption) ?_ (by first | omega | (simp; done) | (simp; omega)))))⟩
  have u0 : L0.length ≤ 1048576 := by omega
  go_enter Tryd.func3, Tryd.ntmps3
  go_wp2_with fail
  refine (szSheet_yes _ _ _ _ _ _ _ (by omega) (by omega) (by omega)).mono ?_
  rintro e w1 ⟨rfl, hq1⟩
  have f0_0_1 : w1.cell? ⟨w.heap.size, 0, none⟩ = some (.int .i64 p0) := keep1 hq1 (by first | (simp [go_sem]; done))
  have f0_1_1 : w1.cell? ⟨w.heap.size, 1, none⟩ = some (.int .i64 s0.x) := keep1 hq1 (by first | (simp [go_sem]; done))
  have f0_2_1 : w1.cell? ⟨w.heap.size, 2, none⟩ = some (.int .i64 s0.y) := keep1 hq1 (by first | (simp [go_sem]; done))
  have f0_3_1 : w1.cell? ⟨w.heap.size, 3, none⟩ = some (.slice A0 L0.length c0) := keep1 hq1 (by first | (simp [go_sem]; done))
  have g0_1 : w.heap.size < w1.heap.size := World.block_lt_of_cell? _ _ f0_0_1
  have hz1 := hq1.size
  (try simp at hz1)
  go_wp2_with fail
  refine (toSheet_any p0 s0 _ _ L0 _ (m0.below (by (repeat (first | exact Below.refl _ _ | assumption | (refine Below.alloc ?_ (by first | omega | (simp; done) | (simp; omega)) _) | (refine Below.setCell ?_ (by first | omega | (simp; done) | (simp; omega)) _) | (refine Below.drew ?_) | (refine Below.drewN ?_ _) | (refine Below.next (by assumption) ?_ (by first | omega | (simp; done) | (simp; omega))))))) (by omega)).mono ?_
  rintro e w2 ⟨A2r, c2r, rfl, ho2, hq2⟩
  have f0_0_2 : w2.cell? ⟨w.heap.size, 0, none⟩ = some (.int .i64 p0) := keep1 hq2 (by first | exact f0_0_1 | exact keepA f0_0_1 | exact keepA (keepA f0_0_1) | exact keepA (keepA (keepA f0_0_1)))
  have f0_1_2 : w2.cell? ⟨w.heap.size, 1, none⟩ = some (.int .i64 s0.x) := keep1 hq2 (by first | exact f0_1_1 | exact keepA f0_1_1 | exact keepA (keepA f0_1_1) | exact keepA (keepA (keepA f0_1_1)))
  have f0_2_2 : w2.cell? ⟨w.heap.size, 2, none⟩ = some (.int .i64 s0.y) := keep1 hq2 (by first | exact f0_2_1 | exact keepA f0_2_1 | exact keepA (keepA f0_2_1) | exact keepA (keepA (keepA f0_2_1)))
  have f0_3_2 : w2.cell? ⟨w.heap.size, 3, none⟩ = some (.slice A0 L0.length c0) := keep1 hq2 (by first | exact f0_3_1 | exact keepA f0_3_1 | exact keepA (keepA f0_3_1) | exact keepA (keepA (keepA f0_3_1)))
  have g0_2 : w.heap.size < w2.heap.size := World.block_lt_of_cell? _ _ f0_0_2
  clear f0_0_1 f0_1_1 f0_2_1 f0_3_1 g0_1
  have hz2 := hq2.size
  (try simp at hz2)
  go_wp2_with fail
  refine (spec_SheetText_any p0 s0 _ _ L0 _ (Mem.below (Mem.of_own ho2) (by (repeat (first | exact Below.refl _ _ | assumption | (refine Below.alloc ?_ (by first | omega | (simp; done) | (simp; omega)) _) | (refine Below.setCell ?_ (by first | omega | (simp; done) | (simp; omega)) _) | (refine Below.drew ?_) | (refine Below.drewN ?_ _) | (refine Below.next (by assumption) ?_ (by first | omega | (simp; done) | (simp; omega))))))) u0).mono ?_
  rintro e w3 ⟨rfl, hq3⟩
  have f0_0_3 : w3.cell? ⟨w.heap.size, 0, none⟩ = some (.int .i64 p0) := keep1 hq3 (by first | exact f0_0_2 | exact keepA f0_0_2 | exact keepA (keepA f0_0_2) | exact keepA (keepA (keepA f0_0_2)))
  have f0_1_3 : w3.cell? ⟨w.heap.size, 1, none⟩ = some (.int .i64 s0.x) := keep1 hq3 (by first | exact f0_1_2 | exact keepA f0_1_2 | exact keepA (keepA f0_1_2) | exact keepA (keepA (keepA f0_1_2)))
  have f0_2_3 : w3.cell? ⟨w.heap.size, 2, none⟩ = some (.int .i64 s0.y) := keep1 hq3 (by first | exact f0_2_2 | exact keepA f0_2_2 | exact keepA (keepA f0_2_2) | exact keepA (keepA (keepA f0_2_2)))
  have f0_3_3 : w3.cell? ⟨w.heap.size, 3, none⟩ = some (.slice A0 L0.length c0) := keep1 hq3 (by first | exact f0_3_2 | exact keepA f0_3_2 | exact keepA (keepA f0_3_2) | exact keepA (keepA (keepA f0_3_2)))
  have g0_3 : w.heap.size < w3.heap.size := World.block_lt_of_cell? _ _ f0_0_3
  clear f0_0_2 f0_1_2 f0_2_2 f0_3_2 g0_2
  have hz3 := hq3.size
  (try simp at hz3)
  go_wp2_with fail
  refine (toSheet_any p0 s0 _ _ L0 _ (m0.below (by (repeat (first | exact Below.refl _ _ | assumption | (refine Below.alloc ?_ (by first | omega | (simp; done) | (simp; omega)) _) | (refine Below.setCell ?_ (by first | omega | (simp; done) | (simp; omega)) _) | (refine Below.drew ?_) | (refine Below.drewN ?_ _) | (refine Below.next (by assumption) ?_ (by first | omega | (simp; done) | (simp; omega))))))) (by omega)).mono ?_
  rintro e w4 ⟨A4r, c4r, rfl, ho4, hq4⟩
  have f0_0_4 : w4.cell? ⟨w.heap.size, 0, none⟩ = some (.int .i64 p0) := keep1 hq4 (by first | exact f0_0_3 | exact keepA f0_0_3 | exact keepA (keepA f0_0_3) | exact keepA (keepA (keepA f0_0_3)))
  have f0_1_4 : w4.cell? ⟨w.heap.size, 1, none⟩ = some (.int .i64 s0.x) := keep1 hq4 (by first | exact f0_1_3 | exact keepA f0_1_3 | exact keepA (keepA f0_1_3) | exact keepA (keepA (keepA f0_1_3)))
  have f0_2_4 : w4.cell? ⟨w.heap.size, 2, none⟩ = some (.int .i64 s0.y) := keep1 hq4 (by first | exact f0_2_3 | exact keepA f0_2_3 | exact keepA (keepA f0_2_3) | exact keepA (keepA (keepA f0_2_3)))
  have f0_3_4 : w4.cell? ⟨w.heap.size, 3, none⟩ = some (.slice A0 L0.length c0) := keep1 hq4 (by first | exact f0_3_3 | exact keepA f0_3_3 | exact keepA (keepA f0_3_3) | exact keepA (keepA (keepA f0_3_3)))
  have g0_4 : w.heap.size < w4.heap.size := World.block_lt_of_cell? _ _ f0_0_4
  clear f0_0_3 f0_1_3 f0_2_3 f0_3_3 g0_3
  have hz4 := hq4.size
  (try simp at hz4)
  go_wp2_with fail
  refine (impl_SheetText_any p0 s0 _ _ L0 _ (Mem.below (Mem.of_own ho4) (by (repeat (first | exact Below.refl _ _ | assumption | (refine Below.alloc ?_ (by first | omega | (simp; done) | (simp; omega)) _) | (refine Below.setCell ?_ (by first | omega | (simp; done) | (simp; omega)) _) | (refine Below.drew ?_) | (refine Below.drewN ?_ _) | (refine Below.next (by assumption) ?_ (by first | omega | (simp; done) | (simp; omega))))))) u0 (ht.below (by (repeat (first | exact Below.refl _ _ | assumption | (refine Below.alloc ?_ (by first | omega | (simp; done) | (simp; omega)) _) | (refine Below.setCell ?_ (by first | omega | (simp; done) | (simp; omega)) _) | (refine Below.drew ?_) | (refine Below.drewN ?_ _) | (refine Below.next (by assumption) ?_ (by first | omega | (simp; done) | (simp; omega)))))))).mono ?_
  rintro e w5 ⟨rfl, hq5⟩
  have f0_0_5 : w5.cell? ⟨w.heap.size, 0, none⟩ = some (.int .i64 p0) := keep1 hq5 (by first | exact f0_0_4 | exact keepA f0_0_4 | exact keepA (keepA f0_0_4) | exact keepA (keepA (keepA f0_0_4)))
  have f0_1_5 : w5.cell? ⟨w.heap.size, 1, none⟩ = some (.int .i64 s0.x) := keep1 hq5 (by first | exact f0_1_4 | exact keepA f0_1_4 | exact keepA (keepA f0_1_4) | exact keepA (keepA (keepA f0_1_4)))
  have f0_2_5 : w5.cell? ⟨w.heap.size, 2, none⟩ = some (.int .i64 s0.y) := keep1 hq5 (by first | exact f0_2_4 | exact keepA f0_2_4 | exact keepA (keepA f0_2_4) | exact keepA (keepA (keepA f0_2_4)))
  have f0_3_5 : w5.cell? ⟨w.heap.size, 3, none⟩ = some (.slice A0 L0.length c0) := keep1 hq5 (by first | exact f0_3_4 | exact keepA f0_3_4 | exact keepA (keepA f0_3_4) | exact keepA (keepA (keepA f0_3_4)))
  have f1_0_5 : w5.cell? ⟨w4.heap.size, 0, none⟩ = some (.int .i64 p0) := keep1 hq5 (by first | (simp [go_sem]; done))
  have f1_1_5 : w5.cell? ⟨w4.heap.size, 1, none⟩ = some (.int .i64 s0.x) := keep1 hq5 (by first | (simp [go_sem]; done))
  have f1_2_5 : w5.cell? ⟨w4.heap.size, 2, none⟩ = some (.int .i64 s0.y) := keep1 hq5 (by first | (simp [go_sem]; done))
  have f1_3_5 : w5.cell? ⟨w4.heap.size, 3, none⟩ = some (.slice A4r L0.length c4r) := keep1 hq5 (by first | (simp [go_sem]; done))
  have g0_5 : w.heap.size < w5.heap.size := World.block_lt_of_cell? _ _ f0_0_5
  have g1_5 : w4.heap.size < w5.heap.size := World.block_lt_of_cell? _ _ f1_0_5
  clear f0_0_4 f0_1_4 f0_2_4 f0_3_4 g0_4
  have hz5 := hq5.size
  (try simp at hz5)
  go_wp2_with fail
  go_region_held3 (fun w' => w'.cell? ⟨w.heap.size, 0, none⟩ = some (.int .i64 p0) ∧ w'.cell? ⟨w.heap.size, 1, none⟩ = some (.int .i64 s0.x) ∧ w'.cell? ⟨w.heap.size, 2, none⟩ = some (.int .i64 s0.y) ∧ w'.cell? ⟨w.heap.size, 3, none⟩ = some (.slice A0 L0.length c0) ∧ w'.cell? ⟨w4.heap.size, 0, none⟩ = some (.int .i64 p0) ∧ w'.cell? ⟨w4.heap.size, 1, none⟩ = some (.int .i64 s0.x) ∧ w'.cell? ⟨w4.heap.size, 2, none⟩ = some (.int .i64 s0.y) ∧ w'.cell? ⟨w4.heap.size, 3, none⟩ = some (.slice A4r L0.length c4r)) (first | assumption | exact ⟨f0_0_5, f0_1_5, f0_2_5, f0_3_5, f1_0_5, f1_1_5, f1_2_5, f1_3_5⟩ | exact ⟨(keepA f0_0_5), (keepA f0_1_5), (keepA f0_2_5), (keepA f0_3_5), (keepA f1_0_5), (keepA f1_1_5), (keepA f1_2_5), (keepA f1_3_5)⟩ | exact ⟨(keepA (keepA f0_0_5)), (keepA (keepA f0_1_5)), (keepA (keepA f0_2_5)), (keepA (keepA f0_3_5)), (keepA (keepA f1_0_5)), (keepA (keepA f1_1_5)), (keepA (keepA f1_2_5)), (keepA (keepA f1_3_5))⟩) (first | (go_at_call 7; (with_reducible refine (toSheet_any p0 s0 _ _ L0 _ (m0.below (by (repeat (first | exact Below.refl _ _ | assumption | (refine Below.alloc ?_ (by first | omega | (simp; done) | (simp; omega)) _) | (refine Below.setCell ?_ (by first | omega | (simp; done) | (simp; omega)) _) | (refine Below.drew ?_) | (refine Below.drewN ?_ _) | (refine Below.next (by assumption) ?_ (by first | omega | (simp; done) | (simp; omega))))))) (by omega)).mono ?_); rintro e w6 ⟨A6r, c6r, rfl, ho6, hq6⟩; have hz6 := hq6.size; (try simp at hz6); have hS6 := keepN8 hq6 (by assumption)) | (go_at_call 9; (with_reducible refine (eqSheet_any p0 p0 s0 s0 _ _ _ _ L0 L0 _ (Mem.below (Mem.of_own ho4) (by (repeat (first | exact Below.refl _ _ | assumption | (refine Below.alloc ?_ (by first | omega | (simp; done) | (simp; omega)) _) | (refine Below.setCell ?_ (by first | omega | (simp; done) | (simp; omega)) _) | (refine Below.drew ?_) | (refine Below.drewN ?_ _) | (refine Below.next (by assumption) ?_ (by first | omega | (simp; done) | (simp; omega))))))) (Mem.below (Mem.of_own ho6) (by (repeat (first | exact Below.refl _ _ | assumption | (refine Below.alloc ?_ (by first | omega | (simp; done) | (simp; omega)) _) | (refine Below.setCell ?_ (by first | omega | (simp; done) | (simp; omega)) _) | (refine Below.drew ?_) | (refine Below.drewN ?_ _) | (refine Below.next (by assumption) ?_ (by first | omega | (simp; done) | (simp; omega))))))) (by omega) (by omega)).mono ?_); rintro e w7 ⟨he, hq7⟩; rw [shEq_same] at he; subst he; have hz7 := hq7.size; (try simp at hz7); have hS7 := keepN8 hq7 (by assumption)))
  obtain ⟨f0_0_7, f0_1_7, f0_2_7, f0_3_7, f1_0_7, f1_1_7, f1_2_7, f1_3_7⟩ := hS7
  clear f0_0_5 f0_1_5 f0_2_5 f0_3_5 f1_0_5 f1_1_5 f1_2_5 f1_3_5 hS6
  have g0_7 : w.heap.size < w7.heap.size := World.block_lt_of_cell? _ _ f0_0_7
  have g1_7 : w4.heap.size < w7.heap.size := World.block_lt_of_cell? _ _ f1_0_7
  clear g0_5 g1_5
  go_wp2_with fail
  go_ret
  exact ⟨rfl, by (repeat (first | exact Below.refl _ _ | assumption | (refine Below.alloc ?_ (by first | omega | (simp; done) | (simp; omega)) _) | (refine Below.setCell ?_ (by first | omega | (simp; done) | (simp; omega)) _) | (refine Below.drew ?_) | (refine Below.drewN ?_ _) | (refine Below.next (by assumption) ?_ (by first | omega | (simp; done) | (simp; omega)))))⟩
end Go.Proofs.YtdmgffcabjpihaaDoor
