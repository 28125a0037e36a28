/-
  Contracts: moves that are joined, the program's.
-/
import Derived.Test.YtdmgffcabjpihaaGreatDoorShl
import Derived.Test.YtdmgffcabjpihaaGreatDoorKeep
import Derived.Laws.StructEq
namespace Go.Proofs.YtdmgffcabjpihaaGreatDoor
open Go.RowKit Go.Sort

theorem sp_ne2 {a b : Sp} (h : ¬ a = b) : (a.x == b.x) = false ∨ ((a.x == b.x) = true ∧ (a.y == b.y) = false) := sp_neq h
set_option maxRecDepth 100000 in
set_option maxHeartbeats 6400000 in
theorem impl_JoinMoves_any (a b : Mv) (ha : isMv a = true) (hb : isMv b = true) (w : World) : Calls Tryz.prog 32 #[.agg #[.int .i64 a.f.x, .int .i64 a.f.y, .int .i64 a.t.x, .int .i64 a.t.y, .int .i64 a.c], .agg #[.int .i64 b.f.x, .int .i64 b.f.y, .int .i64 b.t.x, .int .i64 b.t.y, .int .i64 b.c]] w (RetMvB w (joinV a b) (joinOk a b)) := by
  obtain ⟨a1, a2, a3, a4⟩ := isMv_iff.1 ha
  obtain ⟨b1, b2, b3, b4⟩ := isMv_iff.1 hb
  have HA := Lib.hid ha
  have HB := Lib.hid hb
  have e0 : Hid (joinOk a b = (((isMv (joinM a b) && decide (a.t = b.f)) && isWh (joinM a b) a.c) && decide (rnd (joinM a b) a.c = a.t))) := Lib.hid rfl
  have CS := Lib.hid (fun w => SplitMove_any a b ha hb w)
  clear ha hb a1 a2 b1 b2
  go_enter Tryz.func32, Tryz.ntmps32
  go_wp2_with fail
  refine (IsMove_any a _).mono ?_
  rintro e w1 ⟨he, hq1⟩
  rw [HA.out] at he
  subst he
  have a1_0 : w1.cell? ⟨w.heap.size, 0, none⟩ = some (.int .i64 a.f.x) := keep1 hq1 (by simp [go_sem])
  have a1_1 : w1.cell? ⟨w.heap.size, 1, none⟩ = some (.int .i64 a.f.y) := keep1 hq1 (by simp [go_sem])
  have a1_2 : w1.cell? ⟨w.heap.size, 2, none⟩ = some (.int .i64 a.t.x) := keep1 hq1 (by simp [go_sem])
  have a1_3 : w1.cell? ⟨w.heap.size, 3, none⟩ = some (.int .i64 a.t.y) := keep1 hq1 (by simp [go_sem])
  have a1_4 : w1.cell? ⟨w.heap.size, 4, none⟩ = some (.int .i64 a.c) := keep1 hq1 (by simp [go_sem])
  have b1_0 : w1.cell? ⟨w.heap.size + 1, 0, none⟩ = some (.int .i64 b.f.x) := keep1 hq1 (by simp [go_sem])
  have b1_1 : w1.cell? ⟨w.heap.size + 1, 1, none⟩ = some (.int .i64 b.f.y) := keep1 hq1 (by simp [go_sem])
  have b1_2 : w1.cell? ⟨w.heap.size + 1, 2, none⟩ = some (.int .i64 b.t.x) := keep1 hq1 (by simp [go_sem])
  have b1_3 : w1.cell? ⟨w.heap.size + 1, 3, none⟩ = some (.int .i64 b.t.y) := keep1 hq1 (by simp [go_sem])
  have b1_4 : w1.cell? ⟨w.heap.size + 1, 4, none⟩ = some (.int .i64 b.c) := keep1 hq1 (by simp [go_sem])
  have c1_0 : w1.cell? ⟨w.heap.size + 1 + 1, 0, none⟩ = some (.int .i64 0) := keep1 hq1 (by simp [go_sem])
  have c1_1 : w1.cell? ⟨w.heap.size + 1 + 1, 1, none⟩ = some (.int .i64 0) := keep1 hq1 (by simp [go_sem])
  have c1_2 : w1.cell? ⟨w.heap.size + 1 + 1, 2, none⟩ = some (.int .i64 0) := keep1 hq1 (by simp [go_sem])
  have c1_3 : w1.cell? ⟨w.heap.size + 1 + 1, 3, none⟩ = some (.int .i64 0) := keep1 hq1 (by simp [go_sem])
  have c1_4 : w1.cell? ⟨w.heap.size + 1 + 1, 4, none⟩ = some (.int .i64 0) := keep1 hq1 (by simp [go_sem])
  have y1_0 : w1.frozen? ⟨w.heap.size + 1 + 1, 0, none⟩ = false := (hq1.frozen (by (try simp); (try omega))).trans (by simp [go_sem])
  have y1_1 : w1.frozen? ⟨w.heap.size + 1 + 1, 1, none⟩ = false := (hq1.frozen (by (try simp); (try omega))).trans (by simp [go_sem])
  have y1_2 : w1.frozen? ⟨w.heap.size + 1 + 1, 2, none⟩ = false := (hq1.frozen (by (try simp); (try omega))).trans (by simp [go_sem])
  have y1_3 : w1.frozen? ⟨w.heap.size + 1 + 1, 3, none⟩ = false := (hq1.frozen (by (try simp); (try omega))).trans (by simp [go_sem])
  have y1_4 : w1.frozen? ⟨w.heap.size + 1 + 1, 4, none⟩ = false := (hq1.frozen (by (try simp); (try omega))).trans (by simp [go_sem])
  have hb1 : Below w.heap.size w w1 := by (repeat (first | exact Below.refl _ _ | assumption | (refine Below.alloc ?_ (by first | omega | (simp; done) | (simp; omega)) _) | (refine Below.setCell ?_ (by first | omega | (simp; done) | (simp; omega)) _) | (refine Below.drew ?_) | (refine Below.drewN ?_ _) | (refine Below.next (by assumption) ?_ (by first | omega | (simp; done) | (simp; omega)))))
  have gz1 : w.heap.size + 1 + 1 < w1.heap.size := World.block_lt_of_cell? _ _ c1_0
  have gz1' : w.heap.size < w1.heap.size := by omega
  have gz1'' : w.heap.size + 1 < w1.heap.size := by omega
  have BC1 := Lib.hid (Blk.below (show Blk (((w.alloc (.cells #[.int .i64 a.f.x, .int .i64 a.f.y, .int .i64 a.t.x, .int .i64 a.t.y, .int .i64 a.c] 49)).alloc (.cells #[.int .i64 b.f.x, .int .i64 b.f.y, .int .i64 b.t.x, .int .i64 b.t.y, .int .i64 b.c] 49)).alloc (.cells #[.int .i64 0, .int .i64 0, .int .i64 0, .int .i64 0, .int .i64 0] 49)) (w.heap.size + 1 + 1) #[.int .i64 0, .int .i64 0, .int .i64 0, .int .i64 0, .int .i64 0] 49 by have h := Blk.new ((w.alloc (.cells #[.int .i64 a.f.x, .int .i64 a.f.y, .int .i64 a.t.x, .int .i64 a.t.y, .int .i64 a.c] 49)).alloc (.cells #[.int .i64 b.f.x, .int .i64 b.f.y, .int .i64 b.t.x, .int .i64 b.t.y, .int .i64 b.c] 49)) #[.int .i64 0, .int .i64 0, .int .i64 0, .int .i64 0, .int .i64 0] 49; rwa [size_allocJ, size_allocJ] at h) hq1 (by simp))
  clear hq1
  go_wp2_with fail
  refine (IsMove_any b _).mono ?_
  rintro e w2 ⟨he, hq2⟩
  rw [HB.out] at he
  subst he
  have a2_0 : w2.cell? ⟨w.heap.size, 0, none⟩ = some (.int .i64 a.f.x) := keep1 hq2 (a1_0)
  have a2_1 : w2.cell? ⟨w.heap.size, 1, none⟩ = some (.int .i64 a.f.y) := keep1 hq2 (a1_1)
  have a2_2 : w2.cell? ⟨w.heap.size, 2, none⟩ = some (.int .i64 a.t.x) := keep1 hq2 (a1_2)
  have a2_3 : w2.cell? ⟨w.heap.size, 3, none⟩ = some (.int .i64 a.t.y) := keep1 hq2 (a1_3)
  have a2_4 : w2.cell? ⟨w.heap.size, 4, none⟩ = some (.int .i64 a.c) := keep1 hq2 (a1_4)
  have b2_0 : w2.cell? ⟨w.heap.size + 1, 0, none⟩ = some (.int .i64 b.f.x) := keep1 hq2 (b1_0)
  have b2_1 : w2.cell? ⟨w.heap.size + 1, 1, none⟩ = some (.int .i64 b.f.y) := keep1 hq2 (b1_1)
  have b2_2 : w2.cell? ⟨w.heap.size + 1, 2, none⟩ = some (.int .i64 b.t.x) := keep1 hq2 (b1_2)
  have b2_3 : w2.cell? ⟨w.heap.size + 1, 3, none⟩ = some (.int .i64 b.t.y) := keep1 hq2 (b1_3)
  have b2_4 : w2.cell? ⟨w.heap.size + 1, 4, none⟩ = some (.int .i64 b.c) := keep1 hq2 (b1_4)
  have c2_0 : w2.cell? ⟨w.heap.size + 1 + 1, 0, none⟩ = some (.int .i64 0) := keep1 hq2 (c1_0)
  have c2_1 : w2.cell? ⟨w.heap.size + 1 + 1, 1, none⟩ = some (.int .i64 0) := keep1 hq2 (c1_1)
  have c2_2 : w2.cell? ⟨w.heap.size + 1 + 1, 2, none⟩ = some (.int .i64 0) := keep1 hq2 (c1_2)
  have c2_3 : w2.cell? ⟨w.heap.size + 1 + 1, 3, none⟩ = some (.int .i64 0) := keep1 hq2 (c1_3)
  have c2_4 : w2.cell? ⟨w.heap.size + 1 + 1, 4, none⟩ = some (.int .i64 0) := keep1 hq2 (c1_4)
  have y2_0 : w2.frozen? ⟨w.heap.size + 1 + 1, 0, none⟩ = false := (hq2.frozen (by (try simp); (try dsimp only); omega)).trans y1_0
  have y2_1 : w2.frozen? ⟨w.heap.size + 1 + 1, 1, none⟩ = false := (hq2.frozen (by (try simp); (try dsimp only); omega)).trans y1_1
  have y2_2 : w2.frozen? ⟨w.heap.size + 1 + 1, 2, none⟩ = false := (hq2.frozen (by (try simp); (try dsimp only); omega)).trans y1_2
  have y2_3 : w2.frozen? ⟨w.heap.size + 1 + 1, 3, none⟩ = false := (hq2.frozen (by (try simp); (try dsimp only); omega)).trans y1_3
  have y2_4 : w2.frozen? ⟨w.heap.size + 1 + 1, 4, none⟩ = false := (hq2.frozen (by (try simp); (try dsimp only); omega)).trans y1_4
  have hb2 : Below w.heap.size w w2 := by (repeat (first | exact Below.refl _ _ | assumption | (refine Below.alloc ?_ (by first | omega | (simp; done) | (simp; omega)) _) | (refine Below.setCell ?_ (by first | omega | (simp; done) | (simp; omega)) _) | (refine Below.drew ?_) | (refine Below.drewN ?_ _) | (refine Below.next (by assumption) ?_ (by first | omega | (simp; done) | (simp; omega)))))
  have gz2 : w.heap.size + 1 + 1 < w2.heap.size := World.block_lt_of_cell? _ _ c2_0
  have gz2' : w.heap.size < w2.heap.size := by omega
  have gz2'' : w.heap.size + 1 < w2.heap.size := by omega
  have BC2 := Lib.hid (BC1.out.below hq2 (by omega))
  clear hq2 hb1 a1_0 a1_1 a1_2 a1_3 a1_4 b1_0 b1_1 b1_2 b1_3 b1_4 c1_0 c1_1 c1_2 c1_3 c1_4 y1_0 y1_1 y1_2 y1_3 y1_4
  go_wp2_with fail
  refine (CS.out _).mono ?_
  rintro e w3 ⟨he, hq3⟩
  have a3_0 : w3.cell? ⟨w.heap.size, 0, none⟩ = some (.int .i64 a.f.x) := keep1 hq3 (keepBo a2_0)
  have a3_1 : w3.cell? ⟨w.heap.size, 1, none⟩ = some (.int .i64 a.f.y) := keep1 hq3 (keepBo a2_1)
  have a3_2 : w3.cell? ⟨w.heap.size, 2, none⟩ = some (.int .i64 a.t.x) := keep1 hq3 (keepBo a2_2)
  have a3_3 : w3.cell? ⟨w.heap.size, 3, none⟩ = some (.int .i64 a.t.y) := keep1 hq3 (keepBo a2_3)
  have a3_4 : w3.cell? ⟨w.heap.size, 4, none⟩ = some (.int .i64 a.c) := keep1 hq3 (keepBo a2_4)
  have b3_0 : w3.cell? ⟨w.heap.size + 1, 0, none⟩ = some (.int .i64 b.f.x) := keep1 hq3 (keepBo b2_0)
  have b3_1 : w3.cell? ⟨w.heap.size + 1, 1, none⟩ = some (.int .i64 b.f.y) := keep1 hq3 (keepBo b2_1)
  have b3_2 : w3.cell? ⟨w.heap.size + 1, 2, none⟩ = some (.int .i64 b.t.x) := keep1 hq3 (keepBo b2_2)
  have b3_3 : w3.cell? ⟨w.heap.size + 1, 3, none⟩ = some (.int .i64 b.t.y) := keep1 hq3 (keepBo b2_3)
  have b3_4 : w3.cell? ⟨w.heap.size + 1, 4, none⟩ = some (.int .i64 b.c) := keep1 hq3 (keepBo b2_4)
  have c3_0 : w3.cell? ⟨w.heap.size + 1 + 1, 0, none⟩ = some (.int .i64 0) := keep1 hq3 (keepBo c2_0)
  have c3_1 : w3.cell? ⟨w.heap.size + 1 + 1, 1, none⟩ = some (.int .i64 0) := keep1 hq3 (keepBo c2_1)
  have c3_2 : w3.cell? ⟨w.heap.size + 1 + 1, 2, none⟩ = some (.int .i64 0) := keep1 hq3 (keepBo c2_2)
  have c3_3 : w3.cell? ⟨w.heap.size + 1 + 1, 3, none⟩ = some (.int .i64 0) := keep1 hq3 (keepBo c2_3)
  have c3_4 : w3.cell? ⟨w.heap.size + 1 + 1, 4, none⟩ = some (.int .i64 0) := keep1 hq3 (keepBo c2_4)
  have y3_0 : w3.frozen? ⟨w.heap.size + 1 + 1, 0, none⟩ = false := (hq3.frozen (by (try simp); (try dsimp only); omega)).trans ((((Below.refl _ _).alloc (Nat.le_refl _) _ : Below w2.heap.size w2 (w2.alloc (.cells #[.int .i64 a.f.x, .int .i64 a.f.y, .int .i64 b.t.x, .int .i64 b.t.y, .int .i64 (a.c + b.c)] 49))).frozen (by (try dsimp only); omega)).trans y2_0)
  have y3_1 : w3.frozen? ⟨w.heap.size + 1 + 1, 1, none⟩ = false := (hq3.frozen (by (try simp); (try dsimp only); omega)).trans ((((Below.refl _ _).alloc (Nat.le_refl _) _ : Below w2.heap.size w2 (w2.alloc (.cells #[.int .i64 a.f.x, .int .i64 a.f.y, .int .i64 b.t.x, .int .i64 b.t.y, .int .i64 (a.c + b.c)] 49))).frozen (by (try dsimp only); omega)).trans y2_1)
  have y3_2 : w3.frozen? ⟨w.heap.size + 1 + 1, 2, none⟩ = false := (hq3.frozen (by (try simp); (try dsimp only); omega)).trans ((((Below.refl _ _).alloc (Nat.le_refl _) _ : Below w2.heap.size w2 (w2.alloc (.cells #[.int .i64 a.f.x, .int .i64 a.f.y, .int .i64 b.t.x, .int .i64 b.t.y, .int .i64 (a.c + b.c)] 49))).frozen (by (try dsimp only); omega)).trans y2_2)
  have y3_3 : w3.frozen? ⟨w.heap.size + 1 + 1, 3, none⟩ = false := (hq3.frozen (by (try simp); (try dsimp only); omega)).trans ((((Below.refl _ _).alloc (Nat.le_refl _) _ : Below w2.heap.size w2 (w2.alloc (.cells #[.int .i64 a.f.x, .int .i64 a.f.y, .int .i64 b.t.x, .int .i64 b.t.y, .int .i64 (a.c + b.c)] 49))).frozen (by (try dsimp only); omega)).trans y2_3)
  have y3_4 : w3.frozen? ⟨w.heap.size + 1 + 1, 4, none⟩ = false := (hq3.frozen (by (try simp); (try dsimp only); omega)).trans ((((Below.refl _ _).alloc (Nat.le_refl _) _ : Below w2.heap.size w2 (w2.alloc (.cells #[.int .i64 a.f.x, .int .i64 a.f.y, .int .i64 b.t.x, .int .i64 b.t.y, .int .i64 (a.c + b.c)] 49))).frozen (by (try dsimp only); omega)).trans y2_4)
  have j3_0 : w3.cell? ⟨w2.heap.size, 0, none⟩ = some (.int .i64 a.f.x) := keep1 hq3 (by simp [go_sem])
  have j3_1 : w3.cell? ⟨w2.heap.size, 1, none⟩ = some (.int .i64 a.f.y) := keep1 hq3 (by simp [go_sem])
  have j3_2 : w3.cell? ⟨w2.heap.size, 2, none⟩ = some (.int .i64 b.t.x) := keep1 hq3 (by simp [go_sem])
  have j3_3 : w3.cell? ⟨w2.heap.size, 3, none⟩ = some (.int .i64 b.t.y) := keep1 hq3 (by simp [go_sem])
  have j3_4 : w3.cell? ⟨w2.heap.size, 4, none⟩ = some (.int .i64 (a.c + b.c)) := keep1 hq3 (by simp [go_sem])
  have hb3 : Below w.heap.size w w3 := by (repeat (first | exact Below.refl _ _ | assumption | (refine Below.alloc ?_ (by first | omega | (simp; done) | (simp; omega)) _) | (refine Below.setCell ?_ (by first | omega | (simp; done) | (simp; omega)) _) | (refine Below.drew ?_) | (refine Below.drewN ?_ _) | (refine Below.next (by assumption) ?_ (by first | omega | (simp; done) | (simp; omega)))))
  have gz3 : w.heap.size + 1 + 1 < w3.heap.size := World.block_lt_of_cell? _ _ c3_0
  have gz3' : w.heap.size < w3.heap.size := by omega
  have gz3'' : w.heap.size + 1 < w3.heap.size := by omega
  have gzj : w2.heap.size < w3.heap.size := World.block_lt_of_cell? _ _ j3_0
  have BC3 := Lib.hid ((BC2.out.alloc (.cells #[.int .i64 a.f.x, .int .i64 a.f.y, .int .i64 b.t.x, .int .i64 b.t.y, .int .i64 (a.c + b.c)] 49)).below hq3 (by simp; omega))
  clear hq3 hb2 a2_0 a2_1 a2_2 a2_3 a2_4 b2_0 b2_1 b2_2 b2_3 b2_4 c2_0 c2_1 c2_2 c2_3 c2_4 y2_0 y2_1 y2_2 y2_3 y2_4
  cases hok : isMv (joinM a b) && isWh (joinM a b) a.c
  · rw [hok, if_neg (by simp)] at he
    have HOK := Lib.hid hok
    subst he
    clear hok
    go_wp2_with fail
    have HCC : Blk (((((((w3.setCell ⟨w.heap.size + 1 + 1, 0, none⟩ (.int .i64 0)).setCell ⟨w.heap.size + 1 + 1, 1, none⟩ (.int .i64 0)).setCell ⟨w.heap.size + 1 + 1, 2, none⟩ (.int .i64 0)).setCell ⟨w.heap.size + 1 + 1, 3, none⟩ (.int .i64 0)).setCell ⟨w.heap.size + 1 + 1, 4, none⟩ (.int .i64 0)).alloc (.cells #[.int .i64 0, .int .i64 0, .int .i64 0, .int .i64 0, .int .i64 0] 49)).alloc (.cells #[.int .i64 0, .int .i64 0, .int .i64 0, .int .i64 0, .int .i64 0] 49)) (w.heap.size + 1 + 1) #[.int .i64 0, .int .i64 0, .int .i64 0, .int .i64 0, .int .i64 0] 49 := ((((((BC3.out.set 0 _).set 1 _).set 2 _).set 3 _).set 4 _).alloc _).alloc _
    have hbF : Below w.heap.size w (((((((w3.setCell ⟨w.heap.size + 1 + 1, 0, none⟩ (.int .i64 0)).setCell ⟨w.heap.size + 1 + 1, 1, none⟩ (.int .i64 0)).setCell ⟨w.heap.size + 1 + 1, 2, none⟩ (.int .i64 0)).setCell ⟨w.heap.size + 1 + 1, 3, none⟩ (.int .i64 0)).setCell ⟨w.heap.size + 1 + 1, 4, none⟩ (.int .i64 0)).alloc (.cells #[.int .i64 0, .int .i64 0, .int .i64 0, .int .i64 0, .int .i64 0] 49)).alloc (.cells #[.int .i64 0, .int .i64 0, .int .i64 0, .int .i64 0, .int .i64 0] 49)) := ((((((hb3.setCell (by (try dsimp only); omega) _).setCell (by (try dsimp only); omega) _).setCell (by (try dsimp only); omega) _).setCell (by (try dsimp only); omega) _).setCell (by (try dsimp only); omega) _).alloc (by (try simp); omega) _).alloc (by (try simp); omega) _
    clear a3_0 a3_1 a3_2 a3_3 a3_4 b3_0 b3_1 b3_2 b3_3 b3_4 c3_0 c3_1 c3_2 c3_3 c3_4 y3_0 y3_1 y3_2 y3_3 y3_4 j3_0 j3_1 j3_2 j3_3 j3_4
    generalize (((((((w3.setCell ⟨w.heap.size + 1 + 1, 0, none⟩ (.int .i64 0)).setCell ⟨w.heap.size + 1 + 1, 1, none⟩ (.int .i64 0)).setCell ⟨w.heap.size + 1 + 1, 2, none⟩ (.int .i64 0)).setCell ⟨w.heap.size + 1 + 1, 3, none⟩ (.int .i64 0)).setCell ⟨w.heap.size + 1 + 1, 4, none⟩ (.int .i64 0)).alloc (.cells #[.int .i64 0, .int .i64 0, .int .i64 0, .int .i64 0, .int .i64 0] 49)).alloc (.cells #[.int .i64 0, .int .i64 0, .int .i64 0, .int .i64 0, .int .i64 0] 49)) = WF at *
    have C0 : WF.cell? ⟨w.heap.size + 1 + 1, 0, none⟩ = some (.int .i64 0) := (HCC.cell 0).trans rfl
    have C1 : WF.cell? ⟨w.heap.size + 1 + 1, 1, none⟩ = some (.int .i64 0) := (HCC.cell 1).trans rfl
    have C2 : WF.cell? ⟨w.heap.size + 1 + 1, 2, none⟩ = some (.int .i64 0) := (HCC.cell 2).trans rfl
    have C3 : WF.cell? ⟨w.heap.size + 1 + 1, 3, none⟩ = some (.int .i64 0) := (HCC.cell 3).trans rfl
    have C4 : WF.cell? ⟨w.heap.size + 1 + 1, 4, none⟩ = some (.int .i64 0) := (HCC.cell 4).trans rfl
    exact bodyPost_ret (v := .tuple #[.agg #[.int .i64 0, .int .i64 0, .int .i64 0, .int .i64 0, .int .i64 0], .bool false]) (by simp [results, Tryz.results32, go_sem, C0, C1, C2, C3, C4]) rfl (RetMvB.no (by rw [e0.out]; have h := HOK.out; cases h5 : isMv (joinM a b) <;> cases h6 : isWh (joinM a b) a.c <;> simp_all) hbF)
  rw [hok, if_pos rfl] at he
  have HOK := Lib.hid hok
  subst he
  clear hok
  generalize hX : rnd (joinM a b) a.c = X at *
  have NO := Lib.hid (show ¬ (X = a.t ∧ X = b.f) → joinOk a b = false from fun h => by
    rw [e0.out]
    by_cases h1 : X = a.t
    · have h2 : ¬ a.t = b.f := fun e => h ⟨h1, h1.trans e⟩
      simp [h2]
    · simp [h1])
  have YES := Lib.hid (show X = a.t → X = b.f → joinOk a b = true from fun h1 h2 => by
    rw [e0.out]
    have h3 : a.t = b.f := h1.symm.trans h2
    have h := HOK.out
    rw [Bool.and_eq_true] at h
    rw [h.1, h.2, h1]
    simp [h3])
  clear hX
  by_cases h1 : X = a.t
  · by_cases h2 : X = b.f
    · have HY := Lib.hid (YES.out h1 h2)
      have q1 : (X.x == a.t.x) = true := by rw [h1]; simp
      have q2 : (X.y == a.t.y) = true := by rw [h1]; simp
      have q3 : (X.x == b.f.x) = true := by rw [h2]; simp
      have q4 : (X.y == b.f.y) = true := by rw [h2]; simp
      clear h1 h2 YES NO
      go_wp2_with fail
      have HCC : Blk (((((((w3.setCell ⟨w.heap.size + 1 + 1, 0, none⟩ (.int .i64 a.f.x)).setCell ⟨w.heap.size + 1 + 1, 1, none⟩ (.int .i64 a.f.y)).setCell ⟨w.heap.size + 1 + 1, 2, none⟩ (.int .i64 b.t.x)).setCell ⟨w.heap.size + 1 + 1, 3, none⟩ (.int .i64 b.t.y)).setCell ⟨w.heap.size + 1 + 1, 4, none⟩ (.int .i64 (a.c + b.c))).alloc (.cells #[.int .i64 a.f.x, .int .i64 a.f.y, .int .i64 X.x, .int .i64 X.y, .int .i64 a.c] 49)).alloc (.cells #[.int .i64 X.x, .int .i64 X.y, .int .i64 b.t.x, .int .i64 b.t.y, .int .i64 b.c] 49)) (w.heap.size + 1 + 1) #[.int .i64 a.f.x, .int .i64 a.f.y, .int .i64 b.t.x, .int .i64 b.t.y, .int .i64 (a.c + b.c)] 49 := ((((((BC3.out.set 0 _).set 1 _).set 2 _).set 3 _).set 4 _).alloc _).alloc _
      have hbF : Below w.heap.size w (((((((w3.setCell ⟨w.heap.size + 1 + 1, 0, none⟩ (.int .i64 a.f.x)).setCell ⟨w.heap.size + 1 + 1, 1, none⟩ (.int .i64 a.f.y)).setCell ⟨w.heap.size + 1 + 1, 2, none⟩ (.int .i64 b.t.x)).setCell ⟨w.heap.size + 1 + 1, 3, none⟩ (.int .i64 b.t.y)).setCell ⟨w.heap.size + 1 + 1, 4, none⟩ (.int .i64 (a.c + b.c))).alloc (.cells #[.int .i64 a.f.x, .int .i64 a.f.y, .int .i64 X.x, .int .i64 X.y, .int .i64 a.c] 49)).alloc (.cells #[.int .i64 X.x, .int .i64 X.y, .int .i64 b.t.x, .int .i64 b.t.y, .int .i64 b.c] 49)) := ((((((hb3.setCell (by (try dsimp only); omega) _).setCell (by (try dsimp only); omega) _).setCell (by (try dsimp only); omega) _).setCell (by (try dsimp only); omega) _).setCell (by (try dsimp only); omega) _).alloc (by (try simp); omega) _).alloc (by (try simp); omega) _
      clear a3_0 a3_1 a3_2 a3_3 a3_4 b3_0 b3_1 b3_2 b3_3 b3_4 c3_0 c3_1 c3_2 c3_3 c3_4 y3_0 y3_1 y3_2 y3_3 y3_4 j3_0 j3_1 j3_2 j3_3 j3_4
      generalize (((((((w3.setCell ⟨w.heap.size + 1 + 1, 0, none⟩ (.int .i64 a.f.x)).setCell ⟨w.heap.size + 1 + 1, 1, none⟩ (.int .i64 a.f.y)).setCell ⟨w.heap.size + 1 + 1, 2, none⟩ (.int .i64 b.t.x)).setCell ⟨w.heap.size + 1 + 1, 3, none⟩ (.int .i64 b.t.y)).setCell ⟨w.heap.size + 1 + 1, 4, none⟩ (.int .i64 (a.c + b.c))).alloc (.cells #[.int .i64 a.f.x, .int .i64 a.f.y, .int .i64 X.x, .int .i64 X.y, .int .i64 a.c] 49)).alloc (.cells #[.int .i64 X.x, .int .i64 X.y, .int .i64 b.t.x, .int .i64 b.t.y, .int .i64 b.c] 49)) = WF at *
      have C0 : WF.cell? ⟨w.heap.size + 1 + 1, 0, none⟩ = some (.int .i64 a.f.x) := (HCC.cell 0).trans rfl
      have C1 : WF.cell? ⟨w.heap.size + 1 + 1, 1, none⟩ = some (.int .i64 a.f.y) := (HCC.cell 1).trans rfl
      have C2 : WF.cell? ⟨w.heap.size + 1 + 1, 2, none⟩ = some (.int .i64 b.t.x) := (HCC.cell 2).trans rfl
      have C3 : WF.cell? ⟨w.heap.size + 1 + 1, 3, none⟩ = some (.int .i64 b.t.y) := (HCC.cell 3).trans rfl
      have C4 : WF.cell? ⟨w.heap.size + 1 + 1, 4, none⟩ = some (.int .i64 (a.c + b.c)) := (HCC.cell 4).trans rfl
      exact bodyPost_ret (v := .tuple #[.agg #[.int .i64 a.f.x, .int .i64 a.f.y, .int .i64 b.t.x, .int .i64 b.t.y, .int .i64 (a.c + b.c)], .bool true]) (by simp [results, Tryz.results32, go_sem, C0, C1, C2, C3, C4]) rfl (RetMvB.yes HY.out hbF)
    · have HN := Lib.hid (NO.out (fun h => h2 h.2))
      have q1 : (X.x == a.t.x) = true := by rw [h1]; simp
      have q2 : (X.y == a.t.y) = true := by rw [h1]; simp
      rcases sp_ne2 h2 with q3 | ⟨q3, q4⟩
      all_goals
        clear h1 h2 YES NO
        go_wp2_with fail
        have HCC : Blk (((((((w3.setCell ⟨w.heap.size + 1 + 1, 0, none⟩ (.int .i64 0)).setCell ⟨w.heap.size + 1 + 1, 1, none⟩ (.int .i64 0)).setCell ⟨w.heap.size + 1 + 1, 2, none⟩ (.int .i64 0)).setCell ⟨w.heap.size + 1 + 1, 3, none⟩ (.int .i64 0)).setCell ⟨w.heap.size + 1 + 1, 4, none⟩ (.int .i64 0)).alloc (.cells #[.int .i64 a.f.x, .int .i64 a.f.y, .int .i64 X.x, .int .i64 X.y, .int .i64 a.c] 49)).alloc (.cells #[.int .i64 X.x, .int .i64 X.y, .int .i64 b.t.x, .int .i64 b.t.y, .int .i64 b.c] 49)) (w.heap.size + 1 + 1) #[.int .i64 0, .int .i64 0, .int .i64 0, .int .i64 0, .int .i64 0] 49 := ((((((BC3.out.set 0 _).set 1 _).set 2 _).set 3 _).set 4 _).alloc _).alloc _
        have hbF : Below w.heap.size w (((((((w3.setCell ⟨w.heap.size + 1 + 1, 0, none⟩ (.int .i64 0)).setCell ⟨w.heap.size + 1 + 1, 1, none⟩ (.int .i64 0)).setCell ⟨w.heap.size + 1 + 1, 2, none⟩ (.int .i64 0)).setCell ⟨w.heap.size + 1 + 1, 3, none⟩ (.int .i64 0)).setCell ⟨w.heap.size + 1 + 1, 4, none⟩ (.int .i64 0)).alloc (.cells #[.int .i64 a.f.x, .int .i64 a.f.y, .int .i64 X.x, .int .i64 X.y, .int .i64 a.c] 49)).alloc (.cells #[.int .i64 X.x, .int .i64 X.y, .int .i64 b.t.x, .int .i64 b.t.y, .int .i64 b.c] 49)) := ((((((hb3.setCell (by (try dsimp only); omega) _).setCell (by (try dsimp only); omega) _).setCell (by (try dsimp only); omega) _).setCell (by (try dsimp only); omega) _).setCell (by (try dsimp only); omega) _).alloc (by (try simp); omega) _).alloc (by (try simp); omega) _
        clear a3_0 a3_1 a3_2 a3_3 a3_4 b3_0 b3_1 b3_2 b3_3 b3_4 c3_0 c3_1 c3_2 c3_3 c3_4 y3_0 y3_1 y3_2 y3_3 y3_4 j3_0 j3_1 j3_2 j3_3 j3_4
        generalize (((((((w3.setCell ⟨w.heap.size + 1 + 1, 0, none⟩ (.int .i64 0)).setCell ⟨w.heap.size + 1 + 1, 1, none⟩ (.int .i64 0)).setCell ⟨w.heap.size + 1 + 1, 2, none⟩ (.int .i64 0)).setCell ⟨w.heap.size + 1 + 1, 3, none⟩ (.int .i64 0)).setCell ⟨w.heap.size + 1 + 1, 4, none⟩ (.int .i64 0)).alloc (.cells #[.int .i64 a.f.x, .int .i64 a.f.y, .int .i64 X.x, .int .i64 X.y, .int .i64 a.c] 49)).alloc (.cells #[.int .i64 X.x, .int .i64 X.y, .int .i64 b.t.x, .int .i64 b.t.y, .int .i64 b.c] 49)) = WF at *
        have C0 : WF.cell? ⟨w.heap.size + 1 + 1, 0, none⟩ = some (.int .i64 0) := (HCC.cell 0).trans rfl
        have C1 : WF.cell? ⟨w.heap.size + 1 + 1, 1, none⟩ = some (.int .i64 0) := (HCC.cell 1).trans rfl
        have C2 : WF.cell? ⟨w.heap.size + 1 + 1, 2, none⟩ = some (.int .i64 0) := (HCC.cell 2).trans rfl
        have C3 : WF.cell? ⟨w.heap.size + 1 + 1, 3, none⟩ = some (.int .i64 0) := (HCC.cell 3).trans rfl
        have C4 : WF.cell? ⟨w.heap.size + 1 + 1, 4, none⟩ = some (.int .i64 0) := (HCC.cell 4).trans rfl
        exact bodyPost_ret (v := .tuple #[.agg #[.int .i64 0, .int .i64 0, .int .i64 0, .int .i64 0, .int .i64 0], .bool false]) (by simp [results, Tryz.results32, go_sem, C0, C1, C2, C3, C4]) rfl (RetMvB.no HN.out hbF)
  · have HN := Lib.hid (NO.out (fun h => h1 h.1))
    rcases sp_ne2 h1 with q1 | ⟨q1, q2⟩
    all_goals
      clear h1 YES NO
      go_wp2_with fail
      have HCC : Blk (((((((w3.setCell ⟨w.heap.size + 1 + 1, 0, none⟩ (.int .i64 0)).setCell ⟨w.heap.size + 1 + 1, 1, none⟩ (.int .i64 0)).setCell ⟨w.heap.size + 1 + 1, 2, none⟩ (.int .i64 0)).setCell ⟨w.heap.size + 1 + 1, 3, none⟩ (.int .i64 0)).setCell ⟨w.heap.size + 1 + 1, 4, none⟩ (.int .i64 0)).alloc (.cells #[.int .i64 a.f.x, .int .i64 a.f.y, .int .i64 X.x, .int .i64 X.y, .int .i64 a.c] 49)).alloc (.cells #[.int .i64 X.x, .int .i64 X.y, .int .i64 b.t.x, .int .i64 b.t.y, .int .i64 b.c] 49)) (w.heap.size + 1 + 1) #[.int .i64 0, .int .i64 0, .int .i64 0, .int .i64 0, .int .i64 0] 49 := ((((((BC3.out.set 0 _).set 1 _).set 2 _).set 3 _).set 4 _).alloc _).alloc _
      have hbF : Below w.heap.size w (((((((w3.setCell ⟨w.heap.size + 1 + 1, 0, none⟩ (.int .i64 0)).setCell ⟨w.heap.size + 1 + 1, 1, none⟩ (.int .i64 0)).setCell ⟨w.heap.size + 1 + 1, 2, none⟩ (.int .i64 0)).setCell ⟨w.heap.size + 1 + 1, 3, none⟩ (.int .i64 0)).setCell ⟨w.heap.size + 1 + 1, 4, none⟩ (.int .i64 0)).alloc (.cells #[.int .i64 a.f.x, .int .i64 a.f.y, .int .i64 X.x, .int .i64 X.y, .int .i64 a.c] 49)).alloc (.cells #[.int .i64 X.x, .int .i64 X.y, .int .i64 b.t.x, .int .i64 b.t.y, .int .i64 b.c] 49)) := ((((((hb3.setCell (by (try dsimp only); omega) _).setCell (by (try dsimp only); omega) _).setCell (by (try dsimp only); omega) _).setCell (by (try dsimp only); omega) _).setCell (by (try dsimp only); omega) _).alloc (by (try simp); omega) _).alloc (by (try simp); omega) _
      clear a3_0 a3_1 a3_2 a3_3 a3_4 b3_0 b3_1 b3_2 b3_3 b3_4 c3_0 c3_1 c3_2 c3_3 c3_4 y3_0 y3_1 y3_2 y3_3 y3_4 j3_0 j3_1 j3_2 j3_3 j3_4
      generalize (((((((w3.setCell ⟨w.heap.size + 1 + 1, 0, none⟩ (.int .i64 0)).setCell ⟨w.heap.size + 1 + 1, 1, none⟩ (.int .i64 0)).setCell ⟨w.heap.size + 1 + 1, 2, none⟩ (.int .i64 0)).setCell ⟨w.heap.size + 1 + 1, 3, none⟩ (.int .i64 0)).setCell ⟨w.heap.size + 1 + 1, 4, none⟩ (.int .i64 0)).alloc (.cells #[.int .i64 a.f.x, .int .i64 a.f.y, .int .i64 X.x, .int .i64 X.y, .int .i64 a.c] 49)).alloc (.cells #[.int .i64 X.x, .int .i64 X.y, .int .i64 b.t.x, .int .i64 b.t.y, .int .i64 b.c] 49)) = WF at *
      have C0 : WF.cell? ⟨w.heap.size + 1 + 1, 0, none⟩ = some (.int .i64 0) := (HCC.cell 0).trans rfl
      have C1 : WF.cell? ⟨w.heap.size + 1 + 1, 1, none⟩ = some (.int .i64 0) := (HCC.cell 1).trans rfl
      have C2 : WF.cell? ⟨w.heap.size + 1 + 1, 2, none⟩ = some (.int .i64 0) := (HCC.cell 2).trans rfl
      have C3 : WF.cell? ⟨w.heap.size + 1 + 1, 3, none⟩ = some (.int .i64 0) := (HCC.cell 3).trans rfl
      have C4 : WF.cell? ⟨w.heap.size + 1 + 1, 4, none⟩ = some (.int .i64 0) := (HCC.cell 4).trans rfl
      exact bodyPost_ret (v := .tuple #[.agg #[.int .i64 0, .int .i64 0, .int .i64 0, .int .i64 0, .int .i64 0], .bool false]) (by simp [results, Tryz.results32, go_sem, C0, C1, C2, C3, C4]) rfl (RetMvB.no HN.out hbF)

end Go.Proofs.YtdmgffcabjpihaaGreatDoor
