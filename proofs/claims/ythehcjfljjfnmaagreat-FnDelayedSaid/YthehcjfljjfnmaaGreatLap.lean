/-
  Contracts: LeastApart, the program's and the reference's.
-/
import Derived.Test.YthehcjfljjfnmaaGreatLda
import Derived.Deep.RegionHeld3
namespace Go.Proofs.YthehcjfljjfnmaaGreat
open Go.RowKit Go.Sort Go.Lib

def mwB (m : Mv) : Prop := (0 ≤ m.f.x ∧ m.f.x ≤ 1280) ∧ (0 ≤ m.f.y ∧ m.f.y ≤ 672) ∧ (0 ≤ m.t.x ∧ m.t.x ≤ 1280) ∧ (0 ≤ m.t.y ∧ m.t.y ≤ 672)
theorem mw_bd {m : Mv} (h : isMw m = true) : mwB m := by
  obtain ⟨h1, h2, -, -⟩ := isMw_iff.1 h
  have a := isSp_iff.1 h1
  have b := isSp_iff.1 h2
  exact ⟨a.1, a.2, b.1, b.2⟩
def inN (x y z u : Int) : Int := if 0 < ptN x y z u ∧ ptN x y z u < ptD x y z u then ptN x y z u else 0
def inD (x y z u : Int) : Int := if 0 < ptN x y z u ∧ ptN x y z u < ptD x y z u then ptD x y z u else 0
theorem ret_22 {a b c d : Int} (h1 : a = b) (h2 : c = d) : Ending.returned (.tuple #[.int .i64 a, .int .i64 c]) = .returned (.tuple #[.int .i64 b, .int .i64 d]) := by rw [h1, h2]

set_option maxHeartbeats 1600000 in
set_option maxRecDepth 100000 in
theorem apEnds_any (a b : Mv) (ha : mwB a) (hb : mwB b) (w : World) : Calls Tryz.prog 75 #[.agg #[.int .i64 a.f.x, .int .i64 a.f.y, .int .i64 a.t.x, .int .i64 a.t.y, .int .i64 a.c], .agg #[.int .i64 b.f.x, .int .i64 b.f.y, .int .i64 b.t.x, .int .i64 b.t.y, .int .i64 b.c]] w fun e w' => e = .returned (.tuple #[.int .i64 (a.f.x - b.f.x), .int .i64 (a.f.y - b.f.y), .int .i64 (a.t.x - b.t.x), .int .i64 (a.t.y - b.t.y)]) ∧ Below w.heap.size w w' := by
  obtain ⟨⟨a0, a1⟩, ⟨a2, a3⟩, ⟨a4, a5⟩, ⟨a6, a7⟩⟩ := ha
  obtain ⟨⟨b0, b1⟩, ⟨b2, b3⟩, ⟨b4, b5⟩, ⟨b6, b7⟩⟩ := hb
  have ma0 : ((w.alloc (.cells #[.int .i64 a.f.x, .int .i64 a.f.y, .int .i64 a.t.x, .int .i64 a.t.y, .int .i64 a.c] 26)).alloc (.cells #[.int .i64 b.f.x, .int .i64 b.f.y, .int .i64 b.t.x, .int .i64 b.t.y, .int .i64 b.c] 26)).cell? ⟨w.heap.size, 0, none⟩ = some (.int .i64 a.f.x) := by simp [go_sem]
  have ma1 : ((w.alloc (.cells #[.int .i64 a.f.x, .int .i64 a.f.y, .int .i64 a.t.x, .int .i64 a.t.y, .int .i64 a.c] 26)).alloc (.cells #[.int .i64 b.f.x, .int .i64 b.f.y, .int .i64 b.t.x, .int .i64 b.t.y, .int .i64 b.c] 26)).cell? ⟨w.heap.size, 1, none⟩ = some (.int .i64 a.f.y) := by simp [go_sem]
  have ma2 : ((w.alloc (.cells #[.int .i64 a.f.x, .int .i64 a.f.y, .int .i64 a.t.x, .int .i64 a.t.y, .int .i64 a.c] 26)).alloc (.cells #[.int .i64 b.f.x, .int .i64 b.f.y, .int .i64 b.t.x, .int .i64 b.t.y, .int .i64 b.c] 26)).cell? ⟨w.heap.size, 2, none⟩ = some (.int .i64 a.t.x) := by simp [go_sem]
  have ma3 : ((w.alloc (.cells #[.int .i64 a.f.x, .int .i64 a.f.y, .int .i64 a.t.x, .int .i64 a.t.y, .int .i64 a.c] 26)).alloc (.cells #[.int .i64 b.f.x, .int .i64 b.f.y, .int .i64 b.t.x, .int .i64 b.t.y, .int .i64 b.c] 26)).cell? ⟨w.heap.size, 3, none⟩ = some (.int .i64 a.t.y) := by simp [go_sem]
  have ma4 : ((w.alloc (.cells #[.int .i64 a.f.x, .int .i64 a.f.y, .int .i64 a.t.x, .int .i64 a.t.y, .int .i64 a.c] 26)).alloc (.cells #[.int .i64 b.f.x, .int .i64 b.f.y, .int .i64 b.t.x, .int .i64 b.t.y, .int .i64 b.c] 26)).cell? ⟨w.heap.size, 4, none⟩ = some (.int .i64 a.c) := by simp [go_sem]
  have mb0 : ((w.alloc (.cells #[.int .i64 a.f.x, .int .i64 a.f.y, .int .i64 a.t.x, .int .i64 a.t.y, .int .i64 a.c] 26)).alloc (.cells #[.int .i64 b.f.x, .int .i64 b.f.y, .int .i64 b.t.x, .int .i64 b.t.y, .int .i64 b.c] 26)).cell? ⟨w.heap.size + 1, 0, none⟩ = some (.int .i64 b.f.x) := by simp [go_sem]
  have mb1 : ((w.alloc (.cells #[.int .i64 a.f.x, .int .i64 a.f.y, .int .i64 a.t.x, .int .i64 a.t.y, .int .i64 a.c] 26)).alloc (.cells #[.int .i64 b.f.x, .int .i64 b.f.y, .int .i64 b.t.x, .int .i64 b.t.y, .int .i64 b.c] 26)).cell? ⟨w.heap.size + 1, 1, none⟩ = some (.int .i64 b.f.y) := by simp [go_sem]
  have mb2 : ((w.alloc (.cells #[.int .i64 a.f.x, .int .i64 a.f.y, .int .i64 a.t.x, .int .i64 a.t.y, .int .i64 a.c] 26)).alloc (.cells #[.int .i64 b.f.x, .int .i64 b.f.y, .int .i64 b.t.x, .int .i64 b.t.y, .int .i64 b.c] 26)).cell? ⟨w.heap.size + 1, 2, none⟩ = some (.int .i64 b.t.x) := by simp [go_sem]
  have mb3 : ((w.alloc (.cells #[.int .i64 a.f.x, .int .i64 a.f.y, .int .i64 a.t.x, .int .i64 a.t.y, .int .i64 a.c] 26)).alloc (.cells #[.int .i64 b.f.x, .int .i64 b.f.y, .int .i64 b.t.x, .int .i64 b.t.y, .int .i64 b.c] 26)).cell? ⟨w.heap.size + 1, 3, none⟩ = some (.int .i64 b.t.y) := by simp [go_sem]
  have mb4 : ((w.alloc (.cells #[.int .i64 a.f.x, .int .i64 a.f.y, .int .i64 a.t.x, .int .i64 a.t.y, .int .i64 a.c] 26)).alloc (.cells #[.int .i64 b.f.x, .int .i64 b.f.y, .int .i64 b.t.x, .int .i64 b.t.y, .int .i64 b.c] 26)).cell? ⟨w.heap.size + 1, 4, none⟩ = some (.int .i64 b.c) := by simp [go_sem]
  have ka0 : ∀ dd os, (grow (redrawn ((w.alloc (.cells #[.int .i64 a.f.x, .int .i64 a.f.y, .int .i64 a.t.x, .int .i64 a.t.y, .int .i64 a.c] 26)).alloc (.cells #[.int .i64 b.f.x, .int .i64 b.f.y, .int .i64 b.t.x, .int .i64 b.t.y, .int .i64 b.c] 26)) dd) os).cell? ⟨w.heap.size, 0, none⟩ = some (.int .i64 a.f.x) := cell_regrown ma0
  have ka1 : ∀ dd os, (grow (redrawn ((w.alloc (.cells #[.int .i64 a.f.x, .int .i64 a.f.y, .int .i64 a.t.x, .int .i64 a.t.y, .int .i64 a.c] 26)).alloc (.cells #[.int .i64 b.f.x, .int .i64 b.f.y, .int .i64 b.t.x, .int .i64 b.t.y, .int .i64 b.c] 26)) dd) os).cell? ⟨w.heap.size, 1, none⟩ = some (.int .i64 a.f.y) := cell_regrown ma1
  have ka2 : ∀ dd os, (grow (redrawn ((w.alloc (.cells #[.int .i64 a.f.x, .int .i64 a.f.y, .int .i64 a.t.x, .int .i64 a.t.y, .int .i64 a.c] 26)).alloc (.cells #[.int .i64 b.f.x, .int .i64 b.f.y, .int .i64 b.t.x, .int .i64 b.t.y, .int .i64 b.c] 26)) dd) os).cell? ⟨w.heap.size, 2, none⟩ = some (.int .i64 a.t.x) := cell_regrown ma2
  have ka3 : ∀ dd os, (grow (redrawn ((w.alloc (.cells #[.int .i64 a.f.x, .int .i64 a.f.y, .int .i64 a.t.x, .int .i64 a.t.y, .int .i64 a.c] 26)).alloc (.cells #[.int .i64 b.f.x, .int .i64 b.f.y, .int .i64 b.t.x, .int .i64 b.t.y, .int .i64 b.c] 26)) dd) os).cell? ⟨w.heap.size, 3, none⟩ = some (.int .i64 a.t.y) := cell_regrown ma3
  have ka4 : ∀ dd os, (grow (redrawn ((w.alloc (.cells #[.int .i64 a.f.x, .int .i64 a.f.y, .int .i64 a.t.x, .int .i64 a.t.y, .int .i64 a.c] 26)).alloc (.cells #[.int .i64 b.f.x, .int .i64 b.f.y, .int .i64 b.t.x, .int .i64 b.t.y, .int .i64 b.c] 26)) dd) os).cell? ⟨w.heap.size, 4, none⟩ = some (.int .i64 a.c) := cell_regrown ma4
  have kb0 : ∀ dd os, (grow (redrawn ((w.alloc (.cells #[.int .i64 a.f.x, .int .i64 a.f.y, .int .i64 a.t.x, .int .i64 a.t.y, .int .i64 a.c] 26)).alloc (.cells #[.int .i64 b.f.x, .int .i64 b.f.y, .int .i64 b.t.x, .int .i64 b.t.y, .int .i64 b.c] 26)) dd) os).cell? ⟨w.heap.size + 1, 0, none⟩ = some (.int .i64 b.f.x) := cell_regrown mb0
  have kb1 : ∀ dd os, (grow (redrawn ((w.alloc (.cells #[.int .i64 a.f.x, .int .i64 a.f.y, .int .i64 a.t.x, .int .i64 a.t.y, .int .i64 a.c] 26)).alloc (.cells #[.int .i64 b.f.x, .int .i64 b.f.y, .int .i64 b.t.x, .int .i64 b.t.y, .int .i64 b.c] 26)) dd) os).cell? ⟨w.heap.size + 1, 1, none⟩ = some (.int .i64 b.f.y) := cell_regrown mb1
  have kb2 : ∀ dd os, (grow (redrawn ((w.alloc (.cells #[.int .i64 a.f.x, .int .i64 a.f.y, .int .i64 a.t.x, .int .i64 a.t.y, .int .i64 a.c] 26)).alloc (.cells #[.int .i64 b.f.x, .int .i64 b.f.y, .int .i64 b.t.x, .int .i64 b.t.y, .int .i64 b.c] 26)) dd) os).cell? ⟨w.heap.size + 1, 2, none⟩ = some (.int .i64 b.t.x) := cell_regrown mb2
  have kb3 : ∀ dd os, (grow (redrawn ((w.alloc (.cells #[.int .i64 a.f.x, .int .i64 a.f.y, .int .i64 a.t.x, .int .i64 a.t.y, .int .i64 a.c] 26)).alloc (.cells #[.int .i64 b.f.x, .int .i64 b.f.y, .int .i64 b.t.x, .int .i64 b.t.y, .int .i64 b.c] 26)) dd) os).cell? ⟨w.heap.size + 1, 3, none⟩ = some (.int .i64 b.t.y) := cell_regrown mb3
  have kb4 : ∀ dd os, (grow (redrawn ((w.alloc (.cells #[.int .i64 a.f.x, .int .i64 a.f.y, .int .i64 a.t.x, .int .i64 a.t.y, .int .i64 a.c] 26)).alloc (.cells #[.int .i64 b.f.x, .int .i64 b.f.y, .int .i64 b.t.x, .int .i64 b.t.y, .int .i64 b.c] 26)) dd) os).cell? ⟨w.heap.size + 1, 4, none⟩ = some (.int .i64 b.c) := cell_regrown mb4
  have hW0 : Below w.heap.size w ((w.alloc (.cells #[.int .i64 a.f.x, .int .i64 a.f.y, .int .i64 a.t.x, .int .i64 a.t.y, .int .i64 a.c] 26)).alloc (.cells #[.int .i64 b.f.x, .int .i64 b.f.y, .int .i64 b.t.x, .int .i64 b.t.y, .int .i64 b.c] 26)) := by (repeat (first | exact Below.refl _ _ | assumption | (refine Below.alloc ?_ (by first | omega | (simp; done) | (simp; omega)) _) | (refine Below.setCell ?_ (by first | omega | (simp; done) | (simp; omega)) _) | (refine Below.drew ?_) | (refine Below.drewN ?_ _) | (refine Below.next (by assumption) ?_ (by first | omega | (simp; done) | (simp; omega)))))
  clear ma0 ma1 ma2 ma3 ma4 mb0 mb1 mb2 mb3 mb4
  go_enter Tryz.func75, Tryz.ntmps75
  go_wp2
  refine wp_region_quiet_below (by kernel_rfl) (by kernel_rfl) ?_
  repeat (first | go_big_quiet_step (fail) | quiet_step (fail))
  refine wpQuiet_nil ?_
  intro _ hw'
  obtain ⟨⟨dq, osq⟩, hw''⟩ := hw'
  subst hw''
  have hb5 := below_regrown ((w.alloc (.cells #[.int .i64 a.f.x, .int .i64 a.f.y, .int .i64 a.t.x, .int .i64 a.t.y, .int .i64 a.c] 26)).alloc (.cells #[.int .i64 b.f.x, .int .i64 b.f.y, .int .i64 b.t.x, .int .i64 b.t.y, .int .i64 b.c] 26)) dq osq
  go_wp2
  refine bodyPost_ret (v := .tuple #[.int .i64 (a.f.x - b.f.x), .int .i64 (a.f.y - b.f.y), .int .i64 (a.t.x - b.t.x), .int .i64 (a.t.y - b.t.y)]) (by simp [results, Tryz.results75, go_sem]) rfl ?_
  exact ⟨rfl, Below.next hb5 hW0 (by simp; omega)⟩

set_option maxHeartbeats 3200000 in
set_option maxRecDepth 100000 in
theorem apInner_any (a b : Mv) (ha : mwB a) (hb : mwB b) (w : World) : Calls Tryz.prog 76 #[.agg #[.int .i64 a.f.x, .int .i64 a.f.y, .int .i64 a.t.x, .int .i64 a.t.y, .int .i64 a.c], .agg #[.int .i64 b.f.x, .int .i64 b.f.y, .int .i64 b.t.x, .int .i64 b.t.y, .int .i64 b.c]] w fun e w' => e = .returned (.tuple #[.int .i64 (inN (a.f.x - b.f.x) (a.f.y - b.f.y) (a.t.x - b.t.x) (a.t.y - b.t.y)), .int .i64 (inD (a.f.x - b.f.x) (a.f.y - b.f.y) (a.t.x - b.t.x) (a.t.y - b.t.y))]) ∧ Below w.heap.size w w' := by
  obtain ⟨px, hpx⟩ : ∃ v, a.f.x - b.f.x = v := ⟨_, rfl⟩
  obtain ⟨py, hpy⟩ : ∃ v, a.f.y - b.f.y = v := ⟨_, rfl⟩
  obtain ⟨qx, hqx⟩ : ∃ v, a.t.x - b.t.x = v := ⟨_, rfl⟩
  obtain ⟨qy, hqy⟩ : ∃ v, a.t.y - b.t.y = v := ⟨_, rfl⟩
  have B1 : bx px := by have := ha.1; have := hb.1; unfold bx; omega
  have B2 : byy py := by have := ha.2.1; have := hb.2.1; unfold byy; omega
  have B3 : bx qx := by have := ha.2.2.1; have := hb.2.2.1; unfold bx; omega
  have B4 : byy qy := by have := ha.2.2.2; have := hb.2.2.2; unfold byy; omega
  obtain ⟨⟨g1, g2, g3, g4⟩, ⟨e1, e2, e3⟩, ⟨f1, f2, f3, f4⟩⟩ := part_bd B1 B2 B3 B4
  have d1 := mul_bd2 (a := px) (b := qy - py) (A := 20480) (B := 21504) (by have := B1; unfold bx at this; omega) (by have := B1; unfold bx at this; omega) (by have := B2; have := B4; unfold byy at *; omega) (by have := B2; have := B4; unfold byy at *; omega)
  have d2 := mul_bd2 (a := py) (b := qx - px) (A := 10752) (B := 40960) (by have := B2; unfold byy at this; omega) (by have := B2; unfold byy at this; omega) (by have := B1; have := B3; unfold bx at *; omega) (by have := B1; have := B3; unfold bx at *; omega)
  have HB := Lib.hid B1
  obtain ⟨x0, x1⟩ := B1
  obtain ⟨y0, y1⟩ := B2
  obtain ⟨z0, z1⟩ := B3
  obtain ⟨u0, u1⟩ := B4
  have hn : ptN px py qx qy = -(px * (qx - px) + py * (qy - py)) := rfl
  have hd : ptD px py qx qy = (qx - px) * (qx - px) + (qy - py) * (qy - py) := rfl
  have hcr : px * (qy - py) - py * (qx - px) = px * qy - py * qx := crs_eq _ _ _ _
  have HE := Lib.hid (show a.f.x - b.f.x = px ∧ a.f.y - b.f.y = py ∧ a.t.x - b.t.x = qx ∧ a.t.y - b.t.y = qy from ⟨hpx, hpy, hqx, hqy⟩)
  rw [hpx, hpy, hqx, hqy]
  clear hpx hpy hqx hqy hcr d1 d2 e1 e2 e3
  have CE := Lib.hid (fun w => apEnds_any a b ha hb w)
  clear ha hb
  by_cases h1 : 0 < -(px * (qx - px) + py * (qy - py))
  · by_cases h2 : -(px * (qx - px) + py * (qy - py)) < (qx - px) * (qx - px) + (qy - py) * (qy - py)
    · have HI := Lib.hid (show inN px py qx qy = -(px * (qx - px) + py * (qy - py)) ∧ inD px py qx qy = (qx - px) * (qx - px) + (qy - py) * (qy - py) by
        unfold inN inD; rw [if_pos (by rw [hn, hd]; exact ⟨h1, h2⟩), if_pos (by rw [hn, hd]; exact ⟨h1, h2⟩)]; exact ⟨rfl, rfl⟩)
      clear hn hd
      go_enter Tryz.func76, Tryz.ntmps76
      go_wp2_with fail
      refine (CE.out _).mono ?_
      rintro e w1 ⟨rfl, hq⟩
      rw [HE.out.1, HE.out.2.1, HE.out.2.2.1, HE.out.2.2.2]
      have hb1 : Below w.heap.size w w1 := by (repeat (first | exact Below.refl _ _ | assumption | (refine Below.alloc ?_ (by first | omega | (simp; done) | (simp; omega)) _) | (refine Below.setCell ?_ (by first | omega | (simp; done) | (simp; omega)) _) | (refine Below.drew ?_) | (refine Below.drewN ?_ _) | (refine Below.next (by assumption) ?_ (by first | omega | (simp; done) | (simp; omega)))))
      go_wp2_with fail
      go_ret2
      exact ⟨ret_22 HI.out.1.symm HI.out.2.symm, hb1⟩
    · have HI := Lib.hid (show inN px py qx qy = 0 ∧ inD px py qx qy = 0 by
        unfold inN inD; rw [if_neg (by rw [hn, hd]; omega), if_neg (by rw [hn, hd]; omega)]; exact ⟨rfl, rfl⟩)
      clear hn hd
      go_enter Tryz.func76, Tryz.ntmps76
      go_wp2_with fail
      refine (CE.out _).mono ?_
      rintro e w1 ⟨rfl, hq⟩
      rw [HE.out.1, HE.out.2.1, HE.out.2.2.1, HE.out.2.2.2]
      have hb1 : Below w.heap.size w w1 := by (repeat (first | exact Below.refl _ _ | assumption | (refine Below.alloc ?_ (by first | omega | (simp; done) | (simp; omega)) _) | (refine Below.setCell ?_ (by first | omega | (simp; done) | (simp; omega)) _) | (refine Below.drew ?_) | (refine Below.drewN ?_ _) | (refine Below.next (by assumption) ?_ (by first | omega | (simp; done) | (simp; omega)))))
      go_wp2_with fail
      go_ret2
      exact ⟨ret_22 HI.out.1.symm HI.out.2.symm, hb1⟩
  · have HI := Lib.hid (show inN px py qx qy = 0 ∧ inD px py qx qy = 0 by
      unfold inN inD; rw [if_neg (by rw [hn, hd]; omega), if_neg (by rw [hn, hd]; omega)]; exact ⟨rfl, rfl⟩)
    clear hn hd
    go_enter Tryz.func76, Tryz.ntmps76
    go_wp2_with fail
    refine (CE.out _).mono ?_
    rintro e w1 ⟨rfl, hq⟩
    rw [HE.out.1, HE.out.2.1, HE.out.2.2.1, HE.out.2.2.2]
    have hb1 : Below w.heap.size w w1 := by (repeat (first | exact Below.refl _ _ | assumption | (refine Below.alloc ?_ (by first | omega | (simp; done) | (simp; omega)) _) | (refine Below.setCell ?_ (by first | omega | (simp; done) | (simp; omega)) _) | (refine Below.drew ?_) | (refine Below.drewN ?_ _) | (refine Below.next (by assumption) ?_ (by first | omega | (simp; done) | (simp; omega)))))
    go_wp2_with fail
    go_ret2
    exact ⟨ret_22 HI.out.1.symm HI.out.2.symm, hb1⟩

set_option maxHeartbeats 3200000 in
set_option maxRecDepth 100000 in
theorem apLeast_any (a b : Mv) (ha : mwB a) (hb : mwB b) (w : World) : Calls Tryz.prog 52 #[.agg #[.int .i64 a.f.x, .int .i64 a.f.y, .int .i64 a.t.x, .int .i64 a.t.y, .int .i64 a.c], .agg #[.int .i64 b.f.x, .int .i64 b.f.y, .int .i64 b.t.x, .int .i64 b.t.y, .int .i64 b.c]] w fun e w' => e = .returned (.tuple #[.int .i64 (lwN (laF a b).1 (laF a b).2), .int .i64 (lwD (laF a b).1 (laF a b).2)]) ∧ Below w.heap.size w w' := by
  have HL : Hid (laF a b = ptF (a.f.x - b.f.x) (a.f.y - b.f.y) (a.t.x - b.t.x) (a.t.y - b.t.y)) := Lib.hid rfl
  have hW0 : Below w.heap.size w ((w.alloc (.cells #[.int .i64 a.f.x, .int .i64 a.f.y, .int .i64 a.t.x, .int .i64 a.t.y, .int .i64 a.c] 26)).alloc (.cells #[.int .i64 b.f.x, .int .i64 b.f.y, .int .i64 b.t.x, .int .i64 b.t.y, .int .i64 b.c] 26)) := by (repeat (first | exact Below.refl _ _ | assumption | (refine Below.alloc ?_ (by first | omega | (simp; done) | (simp; omega)) _) | (refine Below.setCell ?_ (by first | omega | (simp; done) | (simp; omega)) _) | (refine Below.drew ?_) | (refine Below.drewN ?_ _) | (refine Below.next (by assumption) ?_ (by first | omega | (simp; done) | (simp; omega)))))
  have hs0 : ((w.alloc (.cells #[.int .i64 a.f.x, .int .i64 a.f.y, .int .i64 a.t.x, .int .i64 a.t.y, .int .i64 a.c] 26)).alloc (.cells #[.int .i64 b.f.x, .int .i64 b.f.y, .int .i64 b.t.x, .int .i64 b.t.y, .int .i64 b.c] 26)).heap.size = w.heap.size + 1 + 1 := by simp
  have ma0 : ((w.alloc (.cells #[.int .i64 a.f.x, .int .i64 a.f.y, .int .i64 a.t.x, .int .i64 a.t.y, .int .i64 a.c] 26)).alloc (.cells #[.int .i64 b.f.x, .int .i64 b.f.y, .int .i64 b.t.x, .int .i64 b.t.y, .int .i64 b.c] 26)).cell? ⟨w.heap.size, 0, none⟩ = some (.int .i64 a.f.x) := by simp [go_sem]
  have ma1 : ((w.alloc (.cells #[.int .i64 a.f.x, .int .i64 a.f.y, .int .i64 a.t.x, .int .i64 a.t.y, .int .i64 a.c] 26)).alloc (.cells #[.int .i64 b.f.x, .int .i64 b.f.y, .int .i64 b.t.x, .int .i64 b.t.y, .int .i64 b.c] 26)).cell? ⟨w.heap.size, 1, none⟩ = some (.int .i64 a.f.y) := by simp [go_sem]
  have ma2 : ((w.alloc (.cells #[.int .i64 a.f.x, .int .i64 a.f.y, .int .i64 a.t.x, .int .i64 a.t.y, .int .i64 a.c] 26)).alloc (.cells #[.int .i64 b.f.x, .int .i64 b.f.y, .int .i64 b.t.x, .int .i64 b.t.y, .int .i64 b.c] 26)).cell? ⟨w.heap.size, 2, none⟩ = some (.int .i64 a.t.x) := by simp [go_sem]
  have ma3 : ((w.alloc (.cells #[.int .i64 a.f.x, .int .i64 a.f.y, .int .i64 a.t.x, .int .i64 a.t.y, .int .i64 a.c] 26)).alloc (.cells #[.int .i64 b.f.x, .int .i64 b.f.y, .int .i64 b.t.x, .int .i64 b.t.y, .int .i64 b.c] 26)).cell? ⟨w.heap.size, 3, none⟩ = some (.int .i64 a.t.y) := by simp [go_sem]
  have ma4 : ((w.alloc (.cells #[.int .i64 a.f.x, .int .i64 a.f.y, .int .i64 a.t.x, .int .i64 a.t.y, .int .i64 a.c] 26)).alloc (.cells #[.int .i64 b.f.x, .int .i64 b.f.y, .int .i64 b.t.x, .int .i64 b.t.y, .int .i64 b.c] 26)).cell? ⟨w.heap.size, 4, none⟩ = some (.int .i64 a.c) := by simp [go_sem]
  have mb0 : ((w.alloc (.cells #[.int .i64 a.f.x, .int .i64 a.f.y, .int .i64 a.t.x, .int .i64 a.t.y, .int .i64 a.c] 26)).alloc (.cells #[.int .i64 b.f.x, .int .i64 b.f.y, .int .i64 b.t.x, .int .i64 b.t.y, .int .i64 b.c] 26)).cell? ⟨w.heap.size + 1, 0, none⟩ = some (.int .i64 b.f.x) := by simp [go_sem]
  have mb1 : ((w.alloc (.cells #[.int .i64 a.f.x, .int .i64 a.f.y, .int .i64 a.t.x, .int .i64 a.t.y, .int .i64 a.c] 26)).alloc (.cells #[.int .i64 b.f.x, .int .i64 b.f.y, .int .i64 b.t.x, .int .i64 b.t.y, .int .i64 b.c] 26)).cell? ⟨w.heap.size + 1, 1, none⟩ = some (.int .i64 b.f.y) := by simp [go_sem]
  have mb2 : ((w.alloc (.cells #[.int .i64 a.f.x, .int .i64 a.f.y, .int .i64 a.t.x, .int .i64 a.t.y, .int .i64 a.c] 26)).alloc (.cells #[.int .i64 b.f.x, .int .i64 b.f.y, .int .i64 b.t.x, .int .i64 b.t.y, .int .i64 b.c] 26)).cell? ⟨w.heap.size + 1, 2, none⟩ = some (.int .i64 b.t.x) := by simp [go_sem]
  have mb3 : ((w.alloc (.cells #[.int .i64 a.f.x, .int .i64 a.f.y, .int .i64 a.t.x, .int .i64 a.t.y, .int .i64 a.c] 26)).alloc (.cells #[.int .i64 b.f.x, .int .i64 b.f.y, .int .i64 b.t.x, .int .i64 b.t.y, .int .i64 b.c] 26)).cell? ⟨w.heap.size + 1, 3, none⟩ = some (.int .i64 b.t.y) := by simp [go_sem]
  have mb4 : ((w.alloc (.cells #[.int .i64 a.f.x, .int .i64 a.f.y, .int .i64 a.t.x, .int .i64 a.t.y, .int .i64 a.c] 26)).alloc (.cells #[.int .i64 b.f.x, .int .i64 b.f.y, .int .i64 b.t.x, .int .i64 b.t.y, .int .i64 b.c] 26)).cell? ⟨w.heap.size + 1, 4, none⟩ = some (.int .i64 b.c) := by simp [go_sem]
  obtain ⟨px, hpx⟩ : ∃ v, a.f.x - b.f.x = v := ⟨_, rfl⟩
  obtain ⟨py, hpy⟩ : ∃ v, a.f.y - b.f.y = v := ⟨_, rfl⟩
  obtain ⟨qx, hqx⟩ : ∃ v, a.t.x - b.t.x = v := ⟨_, rfl⟩
  obtain ⟨qy, hqy⟩ : ∃ v, a.t.y - b.t.y = v := ⟨_, rfl⟩
  have B1 : bx px := by have := ha.1; have := hb.1; unfold bx; omega
  have B2 : byy py := by have := ha.2.1; have := hb.2.1; unfold byy; omega
  have B3 : bx qx := by have := ha.2.2.1; have := hb.2.2.1; unfold bx; omega
  have B4 : byy qy := by have := ha.2.2.2; have := hb.2.2.2; unfold byy; omega
  obtain ⟨⟨g1, g2, g3, g4⟩, ⟨e1, e2, e3⟩, ⟨f1, f2, f3, f4⟩⟩ := part_bd B1 B2 B3 B4
  have d1 := mul_bd2 (a := px) (b := qy - py) (A := 20480) (B := 21504) (by have := B1; unfold bx at this; omega) (by have := B1; unfold bx at this; omega) (by have := B2; have := B4; unfold byy at *; omega) (by have := B2; have := B4; unfold byy at *; omega)
  have d2 := mul_bd2 (a := py) (b := qx - px) (A := 10752) (B := 40960) (by have := B2; unfold byy at this; omega) (by have := B2; unfold byy at this; omega) (by have := B1; have := B3; unfold bx at *; omega) (by have := B1; have := B3; unfold bx at *; omega)
  have HB := Lib.hid B1
  obtain ⟨x0, x1⟩ := B1
  obtain ⟨y0, y1⟩ := B2
  obtain ⟨z0, z1⟩ := B3
  obtain ⟨u0, u1⟩ := B4
  have hn : ptN px py qx qy = -(px * (qx - px) + py * (qy - py)) := rfl
  have hd : ptD px py qx qy = (qx - px) * (qx - px) + (qy - py) * (qy - py) := rfl
  have hcr : px * (qy - py) - py * (qx - px) = px * qy - py * qx := crs_eq _ _ _ _
  have HE := Lib.hid (show a.f.x - b.f.x = px ∧ a.f.y - b.f.y = py ∧ a.t.x - b.t.x = qx ∧ a.t.y - b.t.y = qy from ⟨hpx, hpy, hqx, hqy⟩)

  have CE := Lib.hid (fun w => apEnds_any a b ha hb w)
  have CI := Lib.hid (fun w => apInner_any a b ha hb w)
  rw [hpx, hpy, hqx, hqy] at HL
  clear ha hb hpx hpy hqx hqy hcr d1 d2
  by_cases hin : 0 < ptN px py qx qy ∧ ptN px py qx qy < ptD px py qx qy
  all_goals
    go_enter Tryz.func52, Tryz.ntmps52
    go_wp2_with fail
    generalize ((w.alloc (.cells #[.int .i64 a.f.x, .int .i64 a.f.y, .int .i64 a.t.x, .int .i64 a.t.y, .int .i64 a.c] 26)).alloc (.cells #[.int .i64 b.f.x, .int .i64 b.f.y, .int .i64 b.t.x, .int .i64 b.t.y, .int .i64 b.c] 26)) = W0 at *
    refine (CE.out _).mono ?_
    rintro e w1 ⟨rfl, hq⟩
    rw [HE.out.1, HE.out.2.1, HE.out.2.2.1, HE.out.2.2.2]
    have na0 := keep1 hq ma0
    have na1 := keep1 hq ma1
    have na2 := keep1 hq ma2
    have na3 := keep1 hq ma3
    have na4 := keep1 hq ma4
    have nb0 := keep1 hq mb0
    have nb1 := keep1 hq mb1
    have nb2 := keep1 hq mb2
    have nb3 := keep1 hq mb3
    have nb4 := keep1 hq mb4
    clear ma0 ma1 ma2 ma3 ma4 mb0 mb1 mb2 mb3 mb4
    have hb1 : Below w.heap.size w w1 := by (repeat (first | exact Below.refl _ _ | assumption | (refine Below.alloc ?_ (by first | omega | (simp; done) | (simp; omega)) _) | (refine Below.setCell ?_ (by first | omega | (simp; done) | (simp; omega)) _) | (refine Below.drew ?_) | (refine Below.drewN ?_ _) | (refine Below.next (by assumption) ?_ (by first | omega | (simp; done) | (simp; omega)))))
    have gz1 : w.heap.size < w1.heap.size := World.block_lt_of_cell? _ _ na0
    clear hq hW0 hs0
    go_wp2_with fail
    refine (CI.out _).mono ?_
    rintro e w2 ⟨rfl, hq⟩
    rw [HE.out.1, HE.out.2.1, HE.out.2.2.1, HE.out.2.2.2]
    have hb2 : Below w.heap.size w w2 := by (repeat (first | exact Below.refl _ _ | assumption | (refine Below.alloc ?_ (by first | omega | (simp; done) | (simp; omega)) _) | (refine Below.setCell ?_ (by first | omega | (simp; done) | (simp; omega)) _) | (refine Below.drew ?_) | (refine Below.drewN ?_ _) | (refine Below.next (by assumption) ?_ (by first | omega | (simp; done) | (simp; omega)))))
    have gz2 := hq.size
    clear hq hb1 na0 na1 na2 na3 na4 nb0 nb1 nb2 nb3 nb4
  · have h1 : inN px py qx qy = ptN px py qx qy := if_pos hin
    have h2 : inD px py qx qy = ptD px py qx qy := if_pos hin
    have hp := ptD_pos hin
    rw [h1, h2]
    have HF := Lib.hid (HL.out.trans (ptF_yes hin.1 hin.2))
    clear h1 h2 HL
    rw [hn, hd] at hin
    rw [hd] at hp
    rw [hn, hd]
    have HD := Lib.hid hd
    have sq := sq_nonneg (px * qy - py * qx)
    clear hn hd
    go_wp2_with fail
    have CR := Lib.hid (fun w => mvPart_any ((px * qy - py * qx) * (px * qy - py * qx)) ((qx - px) * (qx - px) + (qy - py) * (qy - py)) sq (by omega) hp (by omega) w)
    refine (CR.out _).mono ?_
    rintro e w3 ⟨rfl, hq⟩
    have hb3 : Below w.heap.size w w3 := by (repeat (first | exact Below.refl _ _ | assumption | (refine Below.alloc ?_ (by first | omega | (simp; done) | (simp; omega)) _) | (refine Below.setCell ?_ (by first | omega | (simp; done) | (simp; omega)) _) | (refine Below.drew ?_) | (refine Below.drewN ?_ _) | (refine Below.next (by assumption) ?_ (by first | omega | (simp; done) | (simp; omega)))))
    go_wp2_with fail
    go_ret2
    exact ⟨ret_22 (by rw [HF.out, HD.out]; rfl) (by rw [HF.out, HD.out]; rfl), hb3⟩
  · have h2 : inD px py qx qy = 0 := if_neg hin
    rw [h2]
    have HF := Lib.hid (HL.out.trans (ptF_no hin))
    have hm := sq_nonneg px
    have hm2 := sq_nonneg py
    have hm3 := sq_nonneg qx
    have hm4 := sq_nonneg qy
    have HO := Lib.hid (lw_one (a := min (px * px + py * py) (qx * qx + qy * qy)) (by omega))
    clear h2 HL hin hn hd
    go_wp2_with (go_at_call 72; refine (l1Least_any _ _ _).mono ?_; rintro e w' ⟨rfl, rfl⟩)
    go_ret2
    exact ⟨ret_22 (by rw [HF.out]; exact HO.out.1.symm) (by rw [HF.out]; exact HO.out.2.symm), hb2⟩

set_option maxHeartbeats 3200000 in
set_option maxRecDepth 100000 in
theorem spec_LeastApart_any (a b : Mv) (w : World) : Calls Tryz.prog 24 #[.agg #[.int .i64 a.f.x, .int .i64 a.f.y, .int .i64 a.t.x, .int .i64 a.t.y, .int .i64 a.c], .agg #[.int .i64 b.f.x, .int .i64 b.f.y, .int .i64 b.t.x, .int .i64 b.t.y, .int .i64 b.c]] w fun e w' => e = .returned (.tuple #[.int .i64 (laA a b), .int .i64 (laB a b), .bool (tgOk a b)]) ∧ Below w.heap.size w w' := by
  have e1 : Hid (tgOk a b = false → laA a b = 0 ∧ laB a b = 0) := Lib.hid (fun h => by simp [laA, laB, h])
  have e2 : Hid (tgOk a b = true → laA a b = lwN (laF a b).1 (laF a b).2 ∧ laB a b = lwD (laF a b).1 (laF a b).2) := Lib.hid (fun h => by simp [laA, laB, h])
  have hW0 : Below w.heap.size w ((w.alloc (.cells #[.int .i64 a.f.x, .int .i64 a.f.y, .int .i64 a.t.x, .int .i64 a.t.y, .int .i64 a.c] 26)).alloc (.cells #[.int .i64 b.f.x, .int .i64 b.f.y, .int .i64 b.t.x, .int .i64 b.t.y, .int .i64 b.c] 26)) := by (repeat (first | exact Below.refl _ _ | assumption | (refine Below.alloc ?_ (by first | omega | (simp; done) | (simp; omega)) _) | (refine Below.setCell ?_ (by first | omega | (simp; done) | (simp; omega)) _) | (refine Below.drew ?_) | (refine Below.drewN ?_ _) | (refine Below.next (by assumption) ?_ (by first | omega | (simp; done) | (simp; omega)))))
  have hs0 : ((w.alloc (.cells #[.int .i64 a.f.x, .int .i64 a.f.y, .int .i64 a.t.x, .int .i64 a.t.y, .int .i64 a.c] 26)).alloc (.cells #[.int .i64 b.f.x, .int .i64 b.f.y, .int .i64 b.t.x, .int .i64 b.t.y, .int .i64 b.c] 26)).heap.size = w.heap.size + 1 + 1 := by simp
  have ma0 : ((w.alloc (.cells #[.int .i64 a.f.x, .int .i64 a.f.y, .int .i64 a.t.x, .int .i64 a.t.y, .int .i64 a.c] 26)).alloc (.cells #[.int .i64 b.f.x, .int .i64 b.f.y, .int .i64 b.t.x, .int .i64 b.t.y, .int .i64 b.c] 26)).cell? ⟨w.heap.size, 0, none⟩ = some (.int .i64 a.f.x) := by simp [go_sem]
  have ma1 : ((w.alloc (.cells #[.int .i64 a.f.x, .int .i64 a.f.y, .int .i64 a.t.x, .int .i64 a.t.y, .int .i64 a.c] 26)).alloc (.cells #[.int .i64 b.f.x, .int .i64 b.f.y, .int .i64 b.t.x, .int .i64 b.t.y, .int .i64 b.c] 26)).cell? ⟨w.heap.size, 1, none⟩ = some (.int .i64 a.f.y) := by simp [go_sem]
  have ma2 : ((w.alloc (.cells #[.int .i64 a.f.x, .int .i64 a.f.y, .int .i64 a.t.x, .int .i64 a.t.y, .int .i64 a.c] 26)).alloc (.cells #[.int .i64 b.f.x, .int .i64 b.f.y, .int .i64 b.t.x, .int .i64 b.t.y, .int .i64 b.c] 26)).cell? ⟨w.heap.size, 2, none⟩ = some (.int .i64 a.t.x) := by simp [go_sem]
  have ma3 : ((w.alloc (.cells #[.int .i64 a.f.x, .int .i64 a.f.y, .int .i64 a.t.x, .int .i64 a.t.y, .int .i64 a.c] 26)).alloc (.cells #[.int .i64 b.f.x, .int .i64 b.f.y, .int .i64 b.t.x, .int .i64 b.t.y, .int .i64 b.c] 26)).cell? ⟨w.heap.size, 3, none⟩ = some (.int .i64 a.t.y) := by simp [go_sem]
  have ma4 : ((w.alloc (.cells #[.int .i64 a.f.x, .int .i64 a.f.y, .int .i64 a.t.x, .int .i64 a.t.y, .int .i64 a.c] 26)).alloc (.cells #[.int .i64 b.f.x, .int .i64 b.f.y, .int .i64 b.t.x, .int .i64 b.t.y, .int .i64 b.c] 26)).cell? ⟨w.heap.size, 4, none⟩ = some (.int .i64 a.c) := by simp [go_sem]
  have mb0 : ((w.alloc (.cells #[.int .i64 a.f.x, .int .i64 a.f.y, .int .i64 a.t.x, .int .i64 a.t.y, .int .i64 a.c] 26)).alloc (.cells #[.int .i64 b.f.x, .int .i64 b.f.y, .int .i64 b.t.x, .int .i64 b.t.y, .int .i64 b.c] 26)).cell? ⟨w.heap.size + 1, 0, none⟩ = some (.int .i64 b.f.x) := by simp [go_sem]
  have mb1 : ((w.alloc (.cells #[.int .i64 a.f.x, .int .i64 a.f.y, .int .i64 a.t.x, .int .i64 a.t.y, .int .i64 a.c] 26)).alloc (.cells #[.int .i64 b.f.x, .int .i64 b.f.y, .int .i64 b.t.x, .int .i64 b.t.y, .int .i64 b.c] 26)).cell? ⟨w.heap.size + 1, 1, none⟩ = some (.int .i64 b.f.y) := by simp [go_sem]
  have mb2 : ((w.alloc (.cells #[.int .i64 a.f.x, .int .i64 a.f.y, .int .i64 a.t.x, .int .i64 a.t.y, .int .i64 a.c] 26)).alloc (.cells #[.int .i64 b.f.x, .int .i64 b.f.y, .int .i64 b.t.x, .int .i64 b.t.y, .int .i64 b.c] 26)).cell? ⟨w.heap.size + 1, 2, none⟩ = some (.int .i64 b.t.x) := by simp [go_sem]
  have mb3 : ((w.alloc (.cells #[.int .i64 a.f.x, .int .i64 a.f.y, .int .i64 a.t.x, .int .i64 a.t.y, .int .i64 a.c] 26)).alloc (.cells #[.int .i64 b.f.x, .int .i64 b.f.y, .int .i64 b.t.x, .int .i64 b.t.y, .int .i64 b.c] 26)).cell? ⟨w.heap.size + 1, 3, none⟩ = some (.int .i64 b.t.y) := by simp [go_sem]
  have mb4 : ((w.alloc (.cells #[.int .i64 a.f.x, .int .i64 a.f.y, .int .i64 a.t.x, .int .i64 a.t.y, .int .i64 a.c] 26)).alloc (.cells #[.int .i64 b.f.x, .int .i64 b.f.y, .int .i64 b.t.x, .int .i64 b.t.y, .int .i64 b.c] 26)).cell? ⟨w.heap.size + 1, 4, none⟩ = some (.int .i64 b.c) := by simp [go_sem]

  cases h1 : tgOk a b
  all_goals
    have H1 := Lib.hid h1
    clear h1
    go_enter Tryz.func24, Tryz.ntmps24
    go_wp2_with fail
    generalize ((w.alloc (.cells #[.int .i64 a.f.x, .int .i64 a.f.y, .int .i64 a.t.x, .int .i64 a.t.y, .int .i64 a.c] 26)).alloc (.cells #[.int .i64 b.f.x, .int .i64 b.f.y, .int .i64 b.t.x, .int .i64 b.t.y, .int .i64 b.c] 26)) = W0 at *
    refine (apGood_any a b _).mono ?_
    rintro e w1 ⟨he, hq⟩
    rw [H1.out] at he
    subst he
    have na0 := keep1 hq ma0
    have na1 := keep1 hq ma1
    have na2 := keep1 hq ma2
    have na3 := keep1 hq ma3
    have na4 := keep1 hq ma4
    have nb0 := keep1 hq mb0
    have nb1 := keep1 hq mb1
    have nb2 := keep1 hq mb2
    have nb3 := keep1 hq mb3
    have nb4 := keep1 hq mb4
    clear ma0 ma1 ma2 ma3 ma4 mb0 mb1 mb2 mb3 mb4
    have hb1 : Below w.heap.size w w1 := by (repeat (first | exact Below.refl _ _ | assumption | (refine Below.alloc ?_ (by first | omega | (simp; done) | (simp; omega)) _) | (refine Below.setCell ?_ (by first | omega | (simp; done) | (simp; omega)) _) | (refine Below.drew ?_) | (refine Below.drewN ?_ _) | (refine Below.next (by assumption) ?_ (by first | omega | (simp; done) | (simp; omega)))))
    have gz1 : w.heap.size < w1.heap.size := World.block_lt_of_cell? _ _ na0
    have gz2 : w.heap.size + 1 < w1.heap.size := World.block_lt_of_cell? _ _ nb0
    clear hq hW0 hs0
  · go_wp2_with fail
    go_ret3
    exact ⟨ret_xyb (e1.out H1.out).1.symm (e1.out H1.out).2.symm rfl, hb1⟩
  · have HE := Lib.hid (e2.out H1.out)
    obtain ⟨i1, i2, i3⟩ := tgOk_iff.1 H1.out
    have CL := Lib.hid (fun w => apLeast_any a b (mw_bd i1) (mw_bd i2) w)
    clear i1 i2 i3
    go_wp2_with fail
    refine (CL.out _).mono ?_
    rintro e w2 ⟨rfl, hq⟩
    have hb2 : Below w.heap.size w w2 := by (repeat (first | exact Below.refl _ _ | assumption | (refine Below.alloc ?_ (by first | omega | (simp; done) | (simp; omega)) _) | (refine Below.setCell ?_ (by first | omega | (simp; done) | (simp; omega)) _) | (refine Below.drew ?_) | (refine Below.drewN ?_ _) | (refine Below.next (by assumption) ?_ (by first | omega | (simp; done) | (simp; omega)))))
    go_wp2_with fail
    go_ret3
    exact ⟨ret_xyb HE.out.1.symm HE.out.2.symm rfl, hb2⟩

abbrev S4 (w : World) (p q : Nat) (v0 v1 v2 v3 : Value) : Prop := w.cell? ⟨p, 0, none⟩ = some v0 ∧ w.cell? ⟨p, 1, none⟩ = some v1 ∧ w.cell? ⟨q, 0, none⟩ = some v2 ∧ w.cell? ⟨q, 1, none⟩ = some v3
theorem keepO {w : World} {b q o j : Nat} {u x : Value} (h : w.cell? ⟨b, o, none⟩ = some u) (hne : q ≠ b) : (w.setCell ⟨q, j, none⟩ x).cell? ⟨b, o, none⟩ = some u := (World.cell?_setCell_far _ _ _ _ hne).trans h
theorem S4.drew {w : World} {p q : Nat} {v0 v1 v2 v3 : Value} (h : S4 w p q v0 v1 v2 v3) : S4 w.drew p q v0 v1 v2 v3 := h
theorem S4.put {w : World} {p q b : Nat} {v0 v1 v2 v3 x y : Value} (h1 : b ≠ p) (h2 : b ≠ q) (h : S4 w p q v0 v1 v2 v3) : S4 ((w.setCell ⟨b, 0, none⟩ x).setCell ⟨b, 1, none⟩ y) p q v0 v1 v2 v3 :=
  ⟨keepO (keepO h.1 h1) h1, keepO (keepO h.2.1 h1) h1, keepO (keepO h.2.2.1 h2) h2, keepO (keepO h.2.2.2 h2) h2⟩
theorem la_beg {x y z u : Int} (h : 0 ≤ x * (z - x) + y * (u - y)) : lwN (ptF x y z u).1 (ptF x y z u).2 = x * x + y * y ∧ lwD (ptF x y z u).1 (ptF x y z u).2 = 1 := by
  have hn : ptN x y z u = -(x * (z - x) + y * (u - y)) := rfl
  rw [ptF_no (by rw [hn]; omega)]
  have e : z * z + u * u = (x * x + y * y) + (2 * (x * (z - x) + y * (u - y)) + ((z - x) * (z - x) + (u - y) * (u - y))) := by grind
  have h1 := sq_nonneg (z - x)
  have h2 := sq_nonneg (u - y)
  have h3 := sq_nonneg x
  have h4 := sq_nonneg y
  have hm : min (x * x + y * y) (z * z + u * u) = x * x + y * y := by omega
  show lwN (min _ _) 1 = _ ∧ lwD (min _ _) 1 = 1
  rw [hm]
  exact lw_one (by omega)
theorem la_end {x y z u : Int} (h0 : ¬ 0 ≤ x * (z - x) + y * (u - y)) (h : (z - x) * (z - x) + (u - y) * (u - y) ≤ -(x * (z - x) + y * (u - y))) : lwN (ptF x y z u).1 (ptF x y z u).2 = z * z + u * u ∧ lwD (ptF x y z u).1 (ptF x y z u).2 = 1 := by
  have hn : ptN x y z u = -(x * (z - x) + y * (u - y)) := rfl
  have hd : ptD x y z u = (z - x) * (z - x) + (u - y) * (u - y) := rfl
  rw [ptF_no (by rw [hn, hd]; omega)]
  have e : z * z + u * u = (x * x + y * y) + (2 * (x * (z - x) + y * (u - y)) + ((z - x) * (z - x) + (u - y) * (u - y))) := by grind
  have h3 := sq_nonneg z
  have h4 := sq_nonneg u
  have hm : min (x * x + y * y) (z * z + u * u) = z * z + u * u := by omega
  show lwN (min _ _) 1 = _ ∧ lwD (min _ _) 1 = 1
  rw [hm]
  exact lw_one (by omega)
theorem la_mid {x y z u : Int} (h0 : ¬ 0 ≤ x * (z - x) + y * (u - y)) (h : ¬ (z - x) * (z - x) + (u - y) * (u - y) ≤ -(x * (z - x) + y * (u - y))) : ptF x y z u = ((x * u - y * z) * (x * u - y * z), (z - x) * (z - x) + (u - y) * (u - y)) ∧ 0 < (z - x) * (z - x) + (u - y) * (u - y) := by
  have hn : ptN x y z u = -(x * (z - x) + y * (u - y)) := rfl
  have hd : ptD x y z u = (z - x) * (z - x) + (u - y) * (u - y) := rfl
  rw [ptF_yes (by rw [hn]; omega) (by rw [hn, hd]; omega)]
  exact ⟨rfl, by omega⟩

set_option maxHeartbeats 6400000 in
set_option maxRecDepth 100000 in
theorem between_any (a b : Mv) (ha : mwB a) (hb : mwB b) (w : World) : Calls Tryz.prog 73 #[.agg #[.int .i64 a.f.x, .int .i64 a.f.y, .int .i64 a.t.x, .int .i64 a.t.y, .int .i64 a.c], .agg #[.int .i64 b.f.x, .int .i64 b.f.y, .int .i64 b.t.x, .int .i64 b.t.y, .int .i64 b.c]] w fun e w' => e = .returned (.tuple #[.agg #[.int .i64 (a.f.x - b.f.x), .int .i64 (a.f.y - b.f.y)], .agg #[.int .i64 (a.t.x - b.t.x - (a.f.x - b.f.x)), .int .i64 (a.t.y - b.t.y - (a.f.y - b.f.y))],
    .int .i64 ((a.f.x - b.f.x) * (a.t.x - b.t.x - (a.f.x - b.f.x)) + (a.f.y - b.f.y) * (a.t.y - b.t.y - (a.f.y - b.f.y))), .int .i64 ((a.t.x - b.t.x - (a.f.x - b.f.x)) * (a.t.x - b.t.x - (a.f.x - b.f.x)) + (a.t.y - b.t.y - (a.f.y - b.f.y)) * (a.t.y - b.t.y - (a.f.y - b.f.y)))]) ∧ Below w.heap.size w w' := by
  obtain ⟨px, hpx⟩ : ∃ v, a.f.x - b.f.x = v := ⟨_, rfl⟩
  obtain ⟨py, hpy⟩ : ∃ v, a.f.y - b.f.y = v := ⟨_, rfl⟩
  obtain ⟨qx, hqx⟩ : ∃ v, a.t.x - b.t.x = v := ⟨_, rfl⟩
  obtain ⟨qy, hqy⟩ : ∃ v, a.t.y - b.t.y = v := ⟨_, rfl⟩
  have B1 : bx px := by have := ha.1; have := hb.1; unfold bx; omega
  have B2 : byy py := by have := ha.2.1; have := hb.2.1; unfold byy; omega
  have B3 : bx qx := by have := ha.2.2.1; have := hb.2.2.1; unfold bx; omega
  have B4 : byy qy := by have := ha.2.2.2; have := hb.2.2.2; unfold byy; omega
  obtain ⟨⟨g1, g2, g3, g4⟩, ⟨e1, e2, e3⟩, ⟨f1, f2, f3, f4⟩⟩ := part_bd B1 B2 B3 B4
  have d1 := mul_bd2 (a := px) (b := qy - py) (A := 20480) (B := 21504) (by have := B1; unfold bx at this; omega) (by have := B1; unfold bx at this; omega) (by have := B2; have := B4; unfold byy at *; omega) (by have := B2; have := B4; unfold byy at *; omega)
  have d2 := mul_bd2 (a := py) (b := qx - px) (A := 10752) (B := 40960) (by have := B2; unfold byy at this; omega) (by have := B2; unfold byy at this; omega) (by have := B1; have := B3; unfold bx at *; omega) (by have := B1; have := B3; unfold bx at *; omega)
  have HB := Lib.hid B1
  obtain ⟨x0, x1⟩ := B1
  obtain ⟨y0, y1⟩ := B2
  obtain ⟨z0, z1⟩ := B3
  obtain ⟨u0, u1⟩ := B4
  have hn : ptN px py qx qy = -(px * (qx - px) + py * (qy - py)) := rfl
  have hd : ptD px py qx qy = (qx - px) * (qx - px) + (qy - py) * (qy - py) := rfl
  have hcr : px * (qy - py) - py * (qx - px) = px * qy - py * qx := crs_eq _ _ _ _
  have HE := Lib.hid (show a.f.x - b.f.x = px ∧ a.f.y - b.f.y = py ∧ a.t.x - b.t.x = qx ∧ a.t.y - b.t.y = qy from ⟨hpx, hpy, hqx, hqy⟩)

  clear hcr d1 d2 e1 e2 e3 hn hd
  obtain ⟨⟨a0, a1⟩, ⟨a2, a3⟩, ⟨a4, a5⟩, ⟨a6, a7⟩⟩ := ha
  obtain ⟨⟨b0, b1⟩, ⟨b2, b3⟩, ⟨b4, b5⟩, ⟨b6, b7⟩⟩ := hb
  rw [hpx, hpy, hqx, hqy]
  go_enter Tryz.func73, Tryz.ntmps73
  go_wp2
  have c0 : ((((((w.alloc (.cells #[.int .i64 a.f.x, .int .i64 a.f.y, .int .i64 a.t.x, .int .i64 a.t.y, .int .i64 a.c] 26)).alloc (.cells #[.int .i64 b.f.x, .int .i64 b.f.y, .int .i64 b.t.x, .int .i64 b.t.y, .int .i64 b.c] 26)).alloc (.cells #[.int .i64 0, .int .i64 0] 24)).alloc (.cells #[.int .i64 0, .int .i64 0] 24)).alloc (.cells #[.int .i64 px, .int .i64 py] 24)).alloc (.cells #[.int .i64 (qx - px), .int .i64 (qy - py)] 24)).cell? ⟨w.heap.size + 1 + 1 + 1 + 1, 0, none⟩ = some (.int .i64 px) := by simp [go_sem]
  have c1 : ((((((w.alloc (.cells #[.int .i64 a.f.x, .int .i64 a.f.y, .int .i64 a.t.x, .int .i64 a.t.y, .int .i64 a.c] 26)).alloc (.cells #[.int .i64 b.f.x, .int .i64 b.f.y, .int .i64 b.t.x, .int .i64 b.t.y, .int .i64 b.c] 26)).alloc (.cells #[.int .i64 0, .int .i64 0] 24)).alloc (.cells #[.int .i64 0, .int .i64 0] 24)).alloc (.cells #[.int .i64 px, .int .i64 py] 24)).alloc (.cells #[.int .i64 (qx - px), .int .i64 (qy - py)] 24)).cell? ⟨w.heap.size + 1 + 1 + 1 + 1, 1, none⟩ = some (.int .i64 py) := by simp [go_sem]
  have c2 : ((((((w.alloc (.cells #[.int .i64 a.f.x, .int .i64 a.f.y, .int .i64 a.t.x, .int .i64 a.t.y, .int .i64 a.c] 26)).alloc (.cells #[.int .i64 b.f.x, .int .i64 b.f.y, .int .i64 b.t.x, .int .i64 b.t.y, .int .i64 b.c] 26)).alloc (.cells #[.int .i64 0, .int .i64 0] 24)).alloc (.cells #[.int .i64 0, .int .i64 0] 24)).alloc (.cells #[.int .i64 px, .int .i64 py] 24)).alloc (.cells #[.int .i64 (qx - px), .int .i64 (qy - py)] 24)).cell? ⟨w.heap.size + 1 + 1 + 1 + 1 + 1, 0, none⟩ = some (.int .i64 (qx - px)) := by simp [go_sem]
  have c3 : ((((((w.alloc (.cells #[.int .i64 a.f.x, .int .i64 a.f.y, .int .i64 a.t.x, .int .i64 a.t.y, .int .i64 a.c] 26)).alloc (.cells #[.int .i64 b.f.x, .int .i64 b.f.y, .int .i64 b.t.x, .int .i64 b.t.y, .int .i64 b.c] 26)).alloc (.cells #[.int .i64 0, .int .i64 0] 24)).alloc (.cells #[.int .i64 0, .int .i64 0] 24)).alloc (.cells #[.int .i64 px, .int .i64 py] 24)).alloc (.cells #[.int .i64 (qx - px), .int .i64 (qy - py)] 24)).cell? ⟨w.heap.size + 1 + 1 + 1 + 1 + 1, 1, none⟩ = some (.int .i64 (qy - py)) := by simp [go_sem]
  have R0 : Blk ((((((w.alloc (.cells #[.int .i64 a.f.x, .int .i64 a.f.y, .int .i64 a.t.x, .int .i64 a.t.y, .int .i64 a.c] 26)).alloc (.cells #[.int .i64 b.f.x, .int .i64 b.f.y, .int .i64 b.t.x, .int .i64 b.t.y, .int .i64 b.c] 26)).alloc (.cells #[.int .i64 0, .int .i64 0] 24)).alloc (.cells #[.int .i64 0, .int .i64 0] 24)).alloc (.cells #[.int .i64 px, .int .i64 py] 24)).alloc (.cells #[.int .i64 (qx - px), .int .i64 (qy - py)] 24)) (w.heap.size + 1 + 1) #[.int .i64 0, .int .i64 0] 24 := by
    have h := (((Blk.new ((w.alloc (.cells #[.int .i64 a.f.x, .int .i64 a.f.y, .int .i64 a.t.x, .int .i64 a.t.y, .int .i64 a.c] 26)).alloc (.cells #[.int .i64 b.f.x, .int .i64 b.f.y, .int .i64 b.t.x, .int .i64 b.t.y, .int .i64 b.c] 26)) #[.int .i64 0, .int .i64 0] 24).alloc (.cells #[.int .i64 0, .int .i64 0] 24)).alloc (.cells #[.int .i64 px, .int .i64 py] 24)).alloc (.cells #[.int .i64 (qx - px), .int .i64 (qy - py)] 24)
    rwa [show ((w.alloc (.cells #[.int .i64 a.f.x, .int .i64 a.f.y, .int .i64 a.t.x, .int .i64 a.t.y, .int .i64 a.c] 26)).alloc (.cells #[.int .i64 b.f.x, .int .i64 b.f.y, .int .i64 b.t.x, .int .i64 b.t.y, .int .i64 b.c] 26)).heap.size = w.heap.size + 1 + 1 by simp] at h
  have R1 : Blk ((((((w.alloc (.cells #[.int .i64 a.f.x, .int .i64 a.f.y, .int .i64 a.t.x, .int .i64 a.t.y, .int .i64 a.c] 26)).alloc (.cells #[.int .i64 b.f.x, .int .i64 b.f.y, .int .i64 b.t.x, .int .i64 b.t.y, .int .i64 b.c] 26)).alloc (.cells #[.int .i64 0, .int .i64 0] 24)).alloc (.cells #[.int .i64 0, .int .i64 0] 24)).alloc (.cells #[.int .i64 px, .int .i64 py] 24)).alloc (.cells #[.int .i64 (qx - px), .int .i64 (qy - py)] 24)) (w.heap.size + 1 + 1 + 1) #[.int .i64 0, .int .i64 0] 24 := by
    have h := ((Blk.new (((w.alloc (.cells #[.int .i64 a.f.x, .int .i64 a.f.y, .int .i64 a.t.x, .int .i64 a.t.y, .int .i64 a.c] 26)).alloc (.cells #[.int .i64 b.f.x, .int .i64 b.f.y, .int .i64 b.t.x, .int .i64 b.t.y, .int .i64 b.c] 26)).alloc (.cells #[.int .i64 0, .int .i64 0] 24)) #[.int .i64 0, .int .i64 0] 24).alloc (.cells #[.int .i64 px, .int .i64 py] 24)).alloc (.cells #[.int .i64 (qx - px), .int .i64 (qy - py)] 24)
    rwa [show (((w.alloc (.cells #[.int .i64 a.f.x, .int .i64 a.f.y, .int .i64 a.t.x, .int .i64 a.t.y, .int .i64 a.c] 26)).alloc (.cells #[.int .i64 b.f.x, .int .i64 b.f.y, .int .i64 b.t.x, .int .i64 b.t.y, .int .i64 b.c] 26)).alloc (.cells #[.int .i64 0, .int .i64 0] 24)).heap.size = w.heap.size + 1 + 1 + 1 by simp] at h
  have hB6 : Below w.heap.size w ((((((w.alloc (.cells #[.int .i64 a.f.x, .int .i64 a.f.y, .int .i64 a.t.x, .int .i64 a.t.y, .int .i64 a.c] 26)).alloc (.cells #[.int .i64 b.f.x, .int .i64 b.f.y, .int .i64 b.t.x, .int .i64 b.t.y, .int .i64 b.c] 26)).alloc (.cells #[.int .i64 0, .int .i64 0] 24)).alloc (.cells #[.int .i64 0, .int .i64 0] 24)).alloc (.cells #[.int .i64 px, .int .i64 py] 24)).alloc (.cells #[.int .i64 (qx - px), .int .i64 (qy - py)] 24)) := by (repeat (first | exact Below.refl _ _ | assumption | (refine Below.alloc ?_ (by first | omega | (simp; done) | (simp; omega)) _) | (refine Below.setCell ?_ (by first | omega | (simp; done) | (simp; omega)) _) | (refine Below.drew ?_) | (refine Below.drewN ?_ _) | (refine Below.next (by assumption) ?_ (by first | omega | (simp; done) | (simp; omega)))))
  have hz6 : w.heap.size + 1 + 1 + 1 < ((((((w.alloc (.cells #[.int .i64 a.f.x, .int .i64 a.f.y, .int .i64 a.t.x, .int .i64 a.t.y, .int .i64 a.c] 26)).alloc (.cells #[.int .i64 b.f.x, .int .i64 b.f.y, .int .i64 b.t.x, .int .i64 b.t.y, .int .i64 b.c] 26)).alloc (.cells #[.int .i64 0, .int .i64 0] 24)).alloc (.cells #[.int .i64 0, .int .i64 0] 24)).alloc (.cells #[.int .i64 px, .int .i64 py] 24)).alloc (.cells #[.int .i64 (qx - px), .int .i64 (qy - py)] 24)).heap.size := R1.lt
  generalize ((((((w.alloc (.cells #[.int .i64 a.f.x, .int .i64 a.f.y, .int .i64 a.t.x, .int .i64 a.t.y, .int .i64 a.c] 26)).alloc (.cells #[.int .i64 b.f.x, .int .i64 b.f.y, .int .i64 b.t.x, .int .i64 b.t.y, .int .i64 b.c] 26)).alloc (.cells #[.int .i64 0, .int .i64 0] 24)).alloc (.cells #[.int .i64 0, .int .i64 0] 24)).alloc (.cells #[.int .i64 px, .int .i64 py] 24)).alloc (.cells #[.int .i64 (qx - px), .int .i64 (qy - py)] 24)) = W6 at *
  have CS := Lib.hid (show S4 W6 (w.heap.size + 1 + 1 + 1 + 1) (w.heap.size + 1 + 1 + 1 + 1 + 1) (.int .i64 px) (.int .i64 py) (.int .i64 (qx - px)) (.int .i64 (qy - py)) from ⟨c0, c1, c2, c3⟩)
  have h24 : w.heap.size + 1 + 1 ≠ w.heap.size + 1 + 1 + 1 + 1 := by omega
  have h25 : w.heap.size + 1 + 1 ≠ w.heap.size + 1 + 1 + 1 + 1 + 1 := by omega
  have h34 : w.heap.size + 1 + 1 + 1 ≠ w.heap.size + 1 + 1 + 1 + 1 := by omega
  have h35 : w.heap.size + 1 + 1 + 1 ≠ w.heap.size + 1 + 1 + 1 + 1 + 1 := by omega
  have hN := Lib.hid (show w.heap.size + 1 + 1 ≠ w.heap.size + 1 + 1 + 1 from by omega)
  have r0 : W6.cell? ⟨w.heap.size + 1 + 1, 0, none⟩ = some (.int .i64 0) := R0.cell 0
  have r1 : W6.cell? ⟨w.heap.size + 1 + 1, 1, none⟩ = some (.int .i64 0) := R0.cell 1
  have r2 : W6.cell? ⟨w.heap.size + 1 + 1 + 1, 0, none⟩ = some (.int .i64 0) := R1.cell 0
  have r3 : W6.cell? ⟨w.heap.size + 1 + 1 + 1, 1, none⟩ = some (.int .i64 0) := R1.cell 1
  have s0 := R0.frozen 0
  have s1 := R0.frozen 1
  have s2 := R1.frozen 0
  have s3 := R1.frozen 1
  have HR0 := Lib.hid R0
  have HR1 := Lib.hid R1
  have HB6 := Lib.hid hB6
  clear a0 a1 a2 a3 a4 a5 a6 a7 b0 b1 b2 b3 b4 b5 b6 b7 hpx hpy hqx hqy HE f1 f2 f3 f4 HB x0 x1 y0 y1 z0 z1 u0 u1 c0 c1 c2 c3 R0 R1 hB6 hz6
  go_region_held3 (fun wx => wx.cell? ⟨w.heap.size + 1 + 1 + 1 + 1, 0, none⟩ = some (.int .i64 px) ∧ wx.cell? ⟨w.heap.size + 1 + 1 + 1 + 1, 1, none⟩ = some (.int .i64 py) ∧ wx.cell? ⟨w.heap.size + 1 + 1 + 1 + 1 + 1, 0, none⟩ = some (.int .i64 (qx - px)) ∧ wx.cell? ⟨w.heap.size + 1 + 1 + 1 + 1 + 1, 1, none⟩ = some (.int .i64 (qy - py)))
    (repeat (first | with_reducible exact CS.out | with_reducible refine S4.drew ?_ | with_reducible refine S4.put h24 h25 ?_ | with_reducible refine S4.put h34 h35 ?_))
    (fail)
  rename_i hHeld
  clear hHeld r0 r1 r2 r3 s0 s1 s2 s3 h24 h25 h34 h35
  have P0 := Lib.hid (((HR0.out.set2 (.int .i64 px) (.int .i64 py)).other (g' := w.heap.size + 1 + 1 + 1) (j := 0) hN.out (.int .i64 (qx - px))).other (g' := w.heap.size + 1 + 1 + 1) (j := 1) hN.out (.int .i64 (qy - py)))
  have P1 := Lib.hid (((HR1.out.other (g' := w.heap.size + 1 + 1) (j := 0) (Ne.symm hN.out) (.int .i64 px)).other (g' := w.heap.size + 1 + 1) (j := 1) (Ne.symm hN.out) (.int .i64 py)).set2 (.int .i64 (qx - px)) (.int .i64 (qy - py)))
  have P2 := Lib.hid ((((HB6.out.setCell (p := ⟨w.heap.size + 1 + 1, 0, none⟩) (by simp; omega) (.int .i64 px)).setCell (p := ⟨w.heap.size + 1 + 1, 1, none⟩) (by simp; omega) (.int .i64 py)).setCell (p := ⟨w.heap.size + 1 + 1 + 1, 0, none⟩) (by simp; omega) (.int .i64 (qx - px))).setCell (p := ⟨w.heap.size + 1 + 1 + 1, 1, none⟩) (by simp; omega) (.int .i64 (qy - py)))
  have hw1 : IntKind.i64.wrap (IntKind.i64.wrap (px * (qx - px)) + IntKind.i64.wrap (py * (qy - py))) = px * (qx - px) + py * (qy - py) := by
    rw [IntWalk.i64_in (px * (qx - px)) (by omega), IntWalk.i64_in (py * (qy - py)) (by omega)]; exact IntWalk.i64_in _ (by omega)
  have hw2 : IntKind.i64.wrap (IntKind.i64.wrap ((qx - px) * (qx - px)) + IntKind.i64.wrap ((qy - py) * (qy - py))) = (qx - px) * (qx - px) + (qy - py) * (qy - py) := by
    rw [IntWalk.i64_in ((qx - px) * (qx - px)) (by omega), IntWalk.i64_in ((qy - py) * (qy - py)) (by omega)]; exact IntWalk.i64_in _ (by omega)
  rw [hw1, hw2]
  generalize ((((W6.setCell ⟨w.heap.size + 1 + 1, 0, none⟩ (.int .i64 px)).setCell ⟨w.heap.size + 1 + 1, 1, none⟩ (.int .i64 py)).setCell ⟨w.heap.size + 1 + 1 + 1, 0, none⟩ (.int .i64 (qx - px))).setCell ⟨w.heap.size + 1 + 1 + 1, 1, none⟩ (.int .i64 (qy - py))) = WF at *
  clear g1 g2 g3 g4 hw1 hw2 hN HB6 HR0 HR1
  have C0 : WF.cell? ⟨w.heap.size + 1 + 1, 0, none⟩ = some (.int .i64 px) := P0.out.cell 0
  have C1 : WF.cell? ⟨w.heap.size + 1 + 1, 1, none⟩ = some (.int .i64 py) := P0.out.cell 1
  have C2 : WF.cell? ⟨w.heap.size + 1 + 1 + 1, 0, none⟩ = some (.int .i64 (qx - px)) := P1.out.cell 0
  have C3 : WF.cell? ⟨w.heap.size + 1 + 1 + 1, 1, none⟩ = some (.int .i64 (qy - py)) := P1.out.cell 1
  go_wp2_with fail
  refine bodyPost_ret (v := .tuple #[.agg #[.int .i64 px, .int .i64 py], .agg #[.int .i64 (qx - px), .int .i64 (qy - py)], .int .i64 (px * (qx - px) + py * (qy - py)), .int .i64 ((qx - px) * (qx - px) + (qy - py) * (qy - py))]) (by simp [results, Tryz.results73, go_sem, C0, C1, C2, C3]) rfl ?_
  exact ⟨rfl, P2.out.drew⟩

set_option maxHeartbeats 6400000 in
set_option maxRecDepth 100000 in
theorem leastApart_any (a b : Mv) (sa : isSp a.t = true) (sb : isSp b.t = true) (ha : mwB a) (hb : mwB b) (w : World) : Calls Tryz.prog 51 #[.agg #[.int .i64 a.f.x, .int .i64 a.f.y, .int .i64 a.t.x, .int .i64 a.t.y, .int .i64 a.c], .agg #[.int .i64 b.f.x, .int .i64 b.f.y, .int .i64 b.t.x, .int .i64 b.t.y, .int .i64 b.c]] w fun e w' => e = .returned (.tuple #[.int .i64 (lwN (laF a b).1 (laF a b).2), .int .i64 (lwD (laF a b).1 (laF a b).2)]) ∧ Below w.heap.size w w' := by
  have HL : Hid (laF a b = ptF (a.f.x - b.f.x) (a.f.y - b.f.y) (a.t.x - b.t.x) (a.t.y - b.t.y)) := Lib.hid rfl
  have hW0 : Below w.heap.size w ((w.alloc (.cells #[.int .i64 a.f.x, .int .i64 a.f.y, .int .i64 a.t.x, .int .i64 a.t.y, .int .i64 a.c] 26)).alloc (.cells #[.int .i64 b.f.x, .int .i64 b.f.y, .int .i64 b.t.x, .int .i64 b.t.y, .int .i64 b.c] 26)) := by (repeat (first | exact Below.refl _ _ | assumption | (refine Below.alloc ?_ (by first | omega | (simp; done) | (simp; omega)) _) | (refine Below.setCell ?_ (by first | omega | (simp; done) | (simp; omega)) _) | (refine Below.drew ?_) | (refine Below.drewN ?_ _) | (refine Below.next (by assumption) ?_ (by first | omega | (simp; done) | (simp; omega)))))
  have hs0 : ((w.alloc (.cells #[.int .i64 a.f.x, .int .i64 a.f.y, .int .i64 a.t.x, .int .i64 a.t.y, .int .i64 a.c] 26)).alloc (.cells #[.int .i64 b.f.x, .int .i64 b.f.y, .int .i64 b.t.x, .int .i64 b.t.y, .int .i64 b.c] 26)).heap.size = w.heap.size + 1 + 1 := by simp
  have ma0 : ((w.alloc (.cells #[.int .i64 a.f.x, .int .i64 a.f.y, .int .i64 a.t.x, .int .i64 a.t.y, .int .i64 a.c] 26)).alloc (.cells #[.int .i64 b.f.x, .int .i64 b.f.y, .int .i64 b.t.x, .int .i64 b.t.y, .int .i64 b.c] 26)).cell? ⟨w.heap.size, 0, none⟩ = some (.int .i64 a.f.x) := by simp [go_sem]
  have ma1 : ((w.alloc (.cells #[.int .i64 a.f.x, .int .i64 a.f.y, .int .i64 a.t.x, .int .i64 a.t.y, .int .i64 a.c] 26)).alloc (.cells #[.int .i64 b.f.x, .int .i64 b.f.y, .int .i64 b.t.x, .int .i64 b.t.y, .int .i64 b.c] 26)).cell? ⟨w.heap.size, 1, none⟩ = some (.int .i64 a.f.y) := by simp [go_sem]
  have ma2 : ((w.alloc (.cells #[.int .i64 a.f.x, .int .i64 a.f.y, .int .i64 a.t.x, .int .i64 a.t.y, .int .i64 a.c] 26)).alloc (.cells #[.int .i64 b.f.x, .int .i64 b.f.y, .int .i64 b.t.x, .int .i64 b.t.y, .int .i64 b.c] 26)).cell? ⟨w.heap.size, 2, none⟩ = some (.int .i64 a.t.x) := by simp [go_sem]
  have ma3 : ((w.alloc (.cells #[.int .i64 a.f.x, .int .i64 a.f.y, .int .i64 a.t.x, .int .i64 a.t.y, .int .i64 a.c] 26)).alloc (.cells #[.int .i64 b.f.x, .int .i64 b.f.y, .int .i64 b.t.x, .int .i64 b.t.y, .int .i64 b.c] 26)).cell? ⟨w.heap.size, 3, none⟩ = some (.int .i64 a.t.y) := by simp [go_sem]
  have ma4 : ((w.alloc (.cells #[.int .i64 a.f.x, .int .i64 a.f.y, .int .i64 a.t.x, .int .i64 a.t.y, .int .i64 a.c] 26)).alloc (.cells #[.int .i64 b.f.x, .int .i64 b.f.y, .int .i64 b.t.x, .int .i64 b.t.y, .int .i64 b.c] 26)).cell? ⟨w.heap.size, 4, none⟩ = some (.int .i64 a.c) := by simp [go_sem]
  have mb0 : ((w.alloc (.cells #[.int .i64 a.f.x, .int .i64 a.f.y, .int .i64 a.t.x, .int .i64 a.t.y, .int .i64 a.c] 26)).alloc (.cells #[.int .i64 b.f.x, .int .i64 b.f.y, .int .i64 b.t.x, .int .i64 b.t.y, .int .i64 b.c] 26)).cell? ⟨w.heap.size + 1, 0, none⟩ = some (.int .i64 b.f.x) := by simp [go_sem]
  have mb1 : ((w.alloc (.cells #[.int .i64 a.f.x, .int .i64 a.f.y, .int .i64 a.t.x, .int .i64 a.t.y, .int .i64 a.c] 26)).alloc (.cells #[.int .i64 b.f.x, .int .i64 b.f.y, .int .i64 b.t.x, .int .i64 b.t.y, .int .i64 b.c] 26)).cell? ⟨w.heap.size + 1, 1, none⟩ = some (.int .i64 b.f.y) := by simp [go_sem]
  have mb2 : ((w.alloc (.cells #[.int .i64 a.f.x, .int .i64 a.f.y, .int .i64 a.t.x, .int .i64 a.t.y, .int .i64 a.c] 26)).alloc (.cells #[.int .i64 b.f.x, .int .i64 b.f.y, .int .i64 b.t.x, .int .i64 b.t.y, .int .i64 b.c] 26)).cell? ⟨w.heap.size + 1, 2, none⟩ = some (.int .i64 b.t.x) := by simp [go_sem]
  have mb3 : ((w.alloc (.cells #[.int .i64 a.f.x, .int .i64 a.f.y, .int .i64 a.t.x, .int .i64 a.t.y, .int .i64 a.c] 26)).alloc (.cells #[.int .i64 b.f.x, .int .i64 b.f.y, .int .i64 b.t.x, .int .i64 b.t.y, .int .i64 b.c] 26)).cell? ⟨w.heap.size + 1, 3, none⟩ = some (.int .i64 b.t.y) := by simp [go_sem]
  have mb4 : ((w.alloc (.cells #[.int .i64 a.f.x, .int .i64 a.f.y, .int .i64 a.t.x, .int .i64 a.t.y, .int .i64 a.c] 26)).alloc (.cells #[.int .i64 b.f.x, .int .i64 b.f.y, .int .i64 b.t.x, .int .i64 b.t.y, .int .i64 b.c] 26)).cell? ⟨w.heap.size + 1, 4, none⟩ = some (.int .i64 b.c) := by simp [go_sem]
  obtain ⟨px, hpx⟩ : ∃ v, a.f.x - b.f.x = v := ⟨_, rfl⟩
  obtain ⟨py, hpy⟩ : ∃ v, a.f.y - b.f.y = v := ⟨_, rfl⟩
  obtain ⟨qx, hqx⟩ : ∃ v, a.t.x - b.t.x = v := ⟨_, rfl⟩
  obtain ⟨qy, hqy⟩ : ∃ v, a.t.y - b.t.y = v := ⟨_, rfl⟩
  have B1 : bx px := by have := ha.1; have := hb.1; unfold bx; omega
  have B2 : byy py := by have := ha.2.1; have := hb.2.1; unfold byy; omega
  have B3 : bx qx := by have := ha.2.2.1; have := hb.2.2.1; unfold bx; omega
  have B4 : byy qy := by have := ha.2.2.2; have := hb.2.2.2; unfold byy; omega
  obtain ⟨⟨g1, g2, g3, g4⟩, ⟨e1, e2, e3⟩, ⟨f1, f2, f3, f4⟩⟩ := part_bd B1 B2 B3 B4
  have d1 := mul_bd2 (a := px) (b := qy - py) (A := 20480) (B := 21504) (by have := B1; unfold bx at this; omega) (by have := B1; unfold bx at this; omega) (by have := B2; have := B4; unfold byy at *; omega) (by have := B2; have := B4; unfold byy at *; omega)
  have d2 := mul_bd2 (a := py) (b := qx - px) (A := 10752) (B := 40960) (by have := B2; unfold byy at this; omega) (by have := B2; unfold byy at this; omega) (by have := B1; have := B3; unfold bx at *; omega) (by have := B1; have := B3; unfold bx at *; omega)
  have HB := Lib.hid B1
  obtain ⟨x0, x1⟩ := B1
  obtain ⟨y0, y1⟩ := B2
  obtain ⟨z0, z1⟩ := B3
  obtain ⟨u0, u1⟩ := B4
  have hn : ptN px py qx qy = -(px * (qx - px) + py * (qy - py)) := rfl
  have hd : ptD px py qx qy = (qx - px) * (qx - px) + (qy - py) * (qy - py) := rfl
  have hcr : px * (qy - py) - py * (qx - px) = px * qy - py * qx := crs_eq _ _ _ _
  have HE := Lib.hid (show a.f.x - b.f.x = px ∧ a.f.y - b.f.y = py ∧ a.t.x - b.t.x = qx ∧ a.t.y - b.t.y = qy from ⟨hpx, hpy, hqx, hqy⟩)

  have CB := Lib.hid (fun w => between_any a b ha hb w)
  have CS := Lib.hid (fun w => squareOf_any a.t b.t sa sb w)
  have HS : Hid (sq a.t b.t = (a.t.x - b.t.x) * (a.t.x - b.t.x) + (a.t.y - b.t.y) * (a.t.y - b.t.y)) := Lib.hid rfl
  rw [hpx, hpy, hqx, hqy] at HL
  rw [hqx, hqy] at HS
  clear ha hb sa sb hpx hpy hqx hqy hn hd
  by_cases h1 : 0 ≤ px * (qx - px) + py * (qy - py)
  case' neg => by_cases h2 : (qx - px) * (qx - px) + (qy - py) * (qy - py) ≤ -(px * (qx - px) + py * (qy - py))
  all_goals
    go_enter Tryz.func51, Tryz.ntmps51
    go_wp2_with fail
    generalize ((w.alloc (.cells #[.int .i64 a.f.x, .int .i64 a.f.y, .int .i64 a.t.x, .int .i64 a.t.y, .int .i64 a.c] 26)).alloc (.cells #[.int .i64 b.f.x, .int .i64 b.f.y, .int .i64 b.t.x, .int .i64 b.t.y, .int .i64 b.c] 26)) = W0 at *
    refine (CB.out _).mono ?_
    rintro e w1 ⟨rfl, hq⟩
    rw [HE.out.1, HE.out.2.1, HE.out.2.2.1, HE.out.2.2.2]
    have na0 := keep1 hq ma0
    have na1 := keep1 hq ma1
    have na2 := keep1 hq ma2
    have na3 := keep1 hq ma3
    have na4 := keep1 hq ma4
    have nb0 := keep1 hq mb0
    have nb1 := keep1 hq mb1
    have nb2 := keep1 hq mb2
    have nb3 := keep1 hq mb3
    have nb4 := keep1 hq mb4
    clear ma0 ma1 ma2 ma3 ma4 mb0 mb1 mb2 mb3 mb4
    have hb1 : Below w.heap.size w w1 := by (repeat (first | exact Below.refl _ _ | assumption | (refine Below.alloc ?_ (by first | omega | (simp; done) | (simp; omega)) _) | (refine Below.setCell ?_ (by first | omega | (simp; done) | (simp; omega)) _) | (refine Below.drew ?_) | (refine Below.drewN ?_ _) | (refine Below.next (by assumption) ?_ (by first | omega | (simp; done) | (simp; omega)))))
    have gz1 : w.heap.size < w1.heap.size := World.block_lt_of_cell? _ _ na0
    have gz2 : w.heap.size + 1 < w1.heap.size := World.block_lt_of_cell? _ _ nb0
    clear hq hW0 hs0
    go_wp2_with fail
  · have HF := Lib.hid (la_end (x := px) (y := py) (z := qx) (u := qy) (by omega) (by omega))
    refine (CS.out _).mono ?_
    rintro e w2 ⟨rfl, o1, o2, rfl⟩
    go_wp2_with fail
    go_ret2
    exact ⟨ret_22 (by rw [HL.out, HF.out.1, HS.out]) (by rw [HL.out]; exact HF.out.2.symm), by (repeat (first | exact Below.refl _ _ | assumption | (refine Below.alloc ?_ (by first | omega | (simp; done) | (simp; omega)) _) | (refine Below.setCell ?_ (by first | omega | (simp; done) | (simp; omega)) _) | (refine Below.drew ?_) | (refine Below.drewN ?_ _) | (refine Below.next (by assumption) ?_ (by first | omega | (simp; done) | (simp; omega)))))⟩
  · obtain ⟨hf, hp⟩ := la_mid (x := px) (y := py) (z := qx) (u := qy) (by omega) (by omega)
    have HF := Lib.hid hf
    have sq := sq_nonneg (px * qy - py * qx)
    clear hf
    (try rw [hcr])
    have CR := Lib.hid (fun w => lowestTerms_any ((px * qy - py * qx) * (px * qy - py * qx)) ((qx - px) * (qx - px) + (qy - py) * (qy - py)) sq (by omega) hp (by omega) w)
    refine (CR.out _).mono ?_
    rintro e w3 ⟨rfl, hq⟩
    have hb3 : Below w.heap.size w w3 := by (repeat (first | exact Below.refl _ _ | assumption | (refine Below.alloc ?_ (by first | omega | (simp; done) | (simp; omega)) _) | (refine Below.setCell ?_ (by first | omega | (simp; done) | (simp; omega)) _) | (refine Below.drew ?_) | (refine Below.drewN ?_ _) | (refine Below.next (by assumption) ?_ (by first | omega | (simp; done) | (simp; omega)))))
    go_wp2_with fail
    go_ret2
    exact ⟨ret_22 (by rw [HL.out, HF.out]) (by rw [HL.out, HF.out]), hb3⟩
  · have HF := Lib.hid (la_beg h1)
    go_ret2
    exact ⟨ret_22 (by rw [HL.out]; exact HF.out.1.symm) (by rw [HL.out]; exact HF.out.2.symm), by (repeat (first | exact Below.refl _ _ | assumption | (refine Below.alloc ?_ (by first | omega | (simp; done) | (simp; omega)) _) | (refine Below.setCell ?_ (by first | omega | (simp; done) | (simp; omega)) _) | (refine Below.drew ?_) | (refine Below.drewN ?_ _) | (refine Below.next (by assumption) ?_ (by first | omega | (simp; done) | (simp; omega)))))⟩

set_option maxHeartbeats 3200000 in
set_option maxRecDepth 100000 in
theorem impl_LeastApart_any (a b : Mv) (w : World) : Calls Tryz.prog 23 #[.agg #[.int .i64 a.f.x, .int .i64 a.f.y, .int .i64 a.t.x, .int .i64 a.t.y, .int .i64 a.c], .agg #[.int .i64 b.f.x, .int .i64 b.f.y, .int .i64 b.t.x, .int .i64 b.t.y, .int .i64 b.c]] w fun e w' => e = .returned (.tuple #[.int .i64 (laA a b), .int .i64 (laB a b), .bool (tgOk a b)]) ∧ Below w.heap.size w w' := by
  have e1 : Hid (tgOk a b = false → laA a b = 0 ∧ laB a b = 0) := Lib.hid (fun h => by simp [laA, laB, h])
  have e2 : Hid (tgOk a b = true → laA a b = lwN (laF a b).1 (laF a b).2 ∧ laB a b = lwD (laF a b).1 (laF a b).2) := Lib.hid (fun h => by simp [laA, laB, h])
  have hW0 : Below w.heap.size w ((w.alloc (.cells #[.int .i64 a.f.x, .int .i64 a.f.y, .int .i64 a.t.x, .int .i64 a.t.y, .int .i64 a.c] 26)).alloc (.cells #[.int .i64 b.f.x, .int .i64 b.f.y, .int .i64 b.t.x, .int .i64 b.t.y, .int .i64 b.c] 26)) := by (repeat (first | exact Below.refl _ _ | assumption | (refine Below.alloc ?_ (by first | omega | (simp; done) | (simp; omega)) _) | (refine Below.setCell ?_ (by first | omega | (simp; done) | (simp; omega)) _) | (refine Below.drew ?_) | (refine Below.drewN ?_ _) | (refine Below.next (by assumption) ?_ (by first | omega | (simp; done) | (simp; omega)))))
  have hs0 : ((w.alloc (.cells #[.int .i64 a.f.x, .int .i64 a.f.y, .int .i64 a.t.x, .int .i64 a.t.y, .int .i64 a.c] 26)).alloc (.cells #[.int .i64 b.f.x, .int .i64 b.f.y, .int .i64 b.t.x, .int .i64 b.t.y, .int .i64 b.c] 26)).heap.size = w.heap.size + 1 + 1 := by simp
  have ma0 : ((w.alloc (.cells #[.int .i64 a.f.x, .int .i64 a.f.y, .int .i64 a.t.x, .int .i64 a.t.y, .int .i64 a.c] 26)).alloc (.cells #[.int .i64 b.f.x, .int .i64 b.f.y, .int .i64 b.t.x, .int .i64 b.t.y, .int .i64 b.c] 26)).cell? ⟨w.heap.size, 0, none⟩ = some (.int .i64 a.f.x) := by simp [go_sem]
  have ma1 : ((w.alloc (.cells #[.int .i64 a.f.x, .int .i64 a.f.y, .int .i64 a.t.x, .int .i64 a.t.y, .int .i64 a.c] 26)).alloc (.cells #[.int .i64 b.f.x, .int .i64 b.f.y, .int .i64 b.t.x, .int .i64 b.t.y, .int .i64 b.c] 26)).cell? ⟨w.heap.size, 1, none⟩ = some (.int .i64 a.f.y) := by simp [go_sem]
  have ma2 : ((w.alloc (.cells #[.int .i64 a.f.x, .int .i64 a.f.y, .int .i64 a.t.x, .int .i64 a.t.y, .int .i64 a.c] 26)).alloc (.cells #[.int .i64 b.f.x, .int .i64 b.f.y, .int .i64 b.t.x, .int .i64 b.t.y, .int .i64 b.c] 26)).cell? ⟨w.heap.size, 2, none⟩ = some (.int .i64 a.t.x) := by simp [go_sem]
  have ma3 : ((w.alloc (.cells #[.int .i64 a.f.x, .int .i64 a.f.y, .int .i64 a.t.x, .int .i64 a.t.y, .int .i64 a.c] 26)).alloc (.cells #[.int .i64 b.f.x, .int .i64 b.f.y, .int .i64 b.t.x, .int .i64 b.t.y, .int .i64 b.c] 26)).cell? ⟨w.heap.size, 3, none⟩ = some (.int .i64 a.t.y) := by simp [go_sem]
  have ma4 : ((w.alloc (.cells #[.int .i64 a.f.x, .int .i64 a.f.y, .int .i64 a.t.x, .int .i64 a.t.y, .int .i64 a.c] 26)).alloc (.cells #[.int .i64 b.f.x, .int .i64 b.f.y, .int .i64 b.t.x, .int .i64 b.t.y, .int .i64 b.c] 26)).cell? ⟨w.heap.size, 4, none⟩ = some (.int .i64 a.c) := by simp [go_sem]
  have mb0 : ((w.alloc (.cells #[.int .i64 a.f.x, .int .i64 a.f.y, .int .i64 a.t.x, .int .i64 a.t.y, .int .i64 a.c] 26)).alloc (.cells #[.int .i64 b.f.x, .int .i64 b.f.y, .int .i64 b.t.x, .int .i64 b.t.y, .int .i64 b.c] 26)).cell? ⟨w.heap.size + 1, 0, none⟩ = some (.int .i64 b.f.x) := by simp [go_sem]
  have mb1 : ((w.alloc (.cells #[.int .i64 a.f.x, .int .i64 a.f.y, .int .i64 a.t.x, .int .i64 a.t.y, .int .i64 a.c] 26)).alloc (.cells #[.int .i64 b.f.x, .int .i64 b.f.y, .int .i64 b.t.x, .int .i64 b.t.y, .int .i64 b.c] 26)).cell? ⟨w.heap.size + 1, 1, none⟩ = some (.int .i64 b.f.y) := by simp [go_sem]
  have mb2 : ((w.alloc (.cells #[.int .i64 a.f.x, .int .i64 a.f.y, .int .i64 a.t.x, .int .i64 a.t.y, .int .i64 a.c] 26)).alloc (.cells #[.int .i64 b.f.x, .int .i64 b.f.y, .int .i64 b.t.x, .int .i64 b.t.y, .int .i64 b.c] 26)).cell? ⟨w.heap.size + 1, 2, none⟩ = some (.int .i64 b.t.x) := by simp [go_sem]
  have mb3 : ((w.alloc (.cells #[.int .i64 a.f.x, .int .i64 a.f.y, .int .i64 a.t.x, .int .i64 a.t.y, .int .i64 a.c] 26)).alloc (.cells #[.int .i64 b.f.x, .int .i64 b.f.y, .int .i64 b.t.x, .int .i64 b.t.y, .int .i64 b.c] 26)).cell? ⟨w.heap.size + 1, 3, none⟩ = some (.int .i64 b.t.y) := by simp [go_sem]
  have mb4 : ((w.alloc (.cells #[.int .i64 a.f.x, .int .i64 a.f.y, .int .i64 a.t.x, .int .i64 a.t.y, .int .i64 a.c] 26)).alloc (.cells #[.int .i64 b.f.x, .int .i64 b.f.y, .int .i64 b.t.x, .int .i64 b.t.y, .int .i64 b.c] 26)).cell? ⟨w.heap.size + 1, 4, none⟩ = some (.int .i64 b.c) := by simp [go_sem]

  cases h1 : tgOk a b
  all_goals
    have H1 := Lib.hid h1
    clear h1
    go_enter Tryz.func23, Tryz.ntmps23
    go_wp2_with fail
    generalize ((w.alloc (.cells #[.int .i64 a.f.x, .int .i64 a.f.y, .int .i64 a.t.x, .int .i64 a.t.y, .int .i64 a.c] 26)).alloc (.cells #[.int .i64 b.f.x, .int .i64 b.f.y, .int .i64 b.t.x, .int .i64 b.t.y, .int .i64 b.c] 26)) = W0 at *
    refine (goTogether_any a b _).mono ?_
    rintro e w1 ⟨he, hq⟩
    rw [H1.out] at he
    subst he
    have na0 := keep1 hq ma0
    have na1 := keep1 hq ma1
    have na2 := keep1 hq ma2
    have na3 := keep1 hq ma3
    have na4 := keep1 hq ma4
    have nb0 := keep1 hq mb0
    have nb1 := keep1 hq mb1
    have nb2 := keep1 hq mb2
    have nb3 := keep1 hq mb3
    have nb4 := keep1 hq mb4
    clear ma0 ma1 ma2 ma3 ma4 mb0 mb1 mb2 mb3 mb4
    have hb1 : Below w.heap.size w w1 := by (repeat (first | exact Below.refl _ _ | assumption | (refine Below.alloc ?_ (by first | omega | (simp; done) | (simp; omega)) _) | (refine Below.setCell ?_ (by first | omega | (simp; done) | (simp; omega)) _) | (refine Below.drew ?_) | (refine Below.drewN ?_ _) | (refine Below.next (by assumption) ?_ (by first | omega | (simp; done) | (simp; omega)))))
    have gz1 : w.heap.size < w1.heap.size := World.block_lt_of_cell? _ _ na0
    have gz2 : w.heap.size + 1 < w1.heap.size := World.block_lt_of_cell? _ _ nb0
    clear hq hW0 hs0
  · go_wp2_with fail
    go_ret3
    exact ⟨ret_xyb (e1.out H1.out).1.symm (e1.out H1.out).2.symm rfl, hb1⟩
  · have HE := Lib.hid (e2.out H1.out)
    obtain ⟨i1, i2, i3⟩ := tgOk_iff.1 H1.out
    have CL := Lib.hid (fun w => leastApart_any a b (isMw_iff.1 i1).2.1 (isMw_iff.1 i2).2.1 (mw_bd i1) (mw_bd i2) w)
    clear i1 i2 i3
    go_wp2_with fail
    refine (CL.out _).mono ?_
    rintro e w2 ⟨rfl, hq⟩
    have hb2 : Below w.heap.size w w2 := by (repeat (first | exact Below.refl _ _ | assumption | (refine Below.alloc ?_ (by first | omega | (simp; done) | (simp; omega)) _) | (refine Below.setCell ?_ (by first | omega | (simp; done) | (simp; omega)) _) | (refine Below.drew ?_) | (refine Below.drewN ?_ _) | (refine Below.next (by assumption) ?_ (by first | omega | (simp; done) | (simp; omega)))))
    go_wp2_with fail
    go_ret3
    exact ⟨ret_xyb HE.out.1.symm HE.out.2.symm rfl, hb2⟩

end Go.Proofs.YthehcjfljjfnmaaGreat
