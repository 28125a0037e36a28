/-
  Contracts: the program's split of joined moves.
-/
import Derived.Test.YtdmgffcabjpihaaGreatDoorShj
import Derived.Test.YtdmgffcabjpihaaGreatDoorKeep
import Derived.BigRegion
namespace Go.Proofs.YtdmgffcabjpihaaGreatDoor
open Go.RowKit Go.Sort

/-- The program's split of joined moves. -/
def RetSplit (w : World) (a b : Mv) (e : Ending) (w' : World) : Prop :=
  (e = if isMv (joinM a b) && isWh (joinM a b) a.c then .returned (.tuple #[.agg #[.int .i64 a.f.x, .int .i64 a.f.y, .int .i64 (rnd (joinM a b) a.c).x, .int .i64 (rnd (joinM a b) a.c).y, .int .i64 a.c], .agg #[.int .i64 (rnd (joinM a b) a.c).x, .int .i64 (rnd (joinM a b) a.c).y, .int .i64 b.t.x, .int .i64 b.t.y, .int .i64 b.c], .bool true])
    else .returned (.tuple #[.agg #[.int .i64 0, .int .i64 0, .int .i64 0, .int .i64 0, .int .i64 0], .agg #[.int .i64 0, .int .i64 0, .int .i64 0, .int .i64 0, .int .i64 0], .bool false])) ∧ Below w.heap.size w w'
theorem size_allocJ (w : World) (o : Obj) : (w.alloc o).heap.size = w.heap.size + 1 := by simp
set_option maxRecDepth 100000 in
set_option maxHeartbeats 6400000 in
theorem SplitMove_any (a b : Mv) (ha : isMv a = true) (hb : isMv b = true) (w : World) : Calls Tryz.prog 61 #[.agg #[.int .i64 a.f.x, .int .i64 a.f.y, .int .i64 b.t.x, .int .i64 b.t.y, .int .i64 (a.c + b.c)], .int .i64 a.c] w (RetSplit w a b) := by
  obtain ⟨a1, a2, a3, a4⟩ := isMv_iff.1 ha
  obtain ⟨b1, b2, b3, b4⟩ := isMv_iff.1 hb
  have hac : a.c ≤ (joinM a b).c := by show a.c ≤ a.c + b.c; omega
  have hin : inR a.c 1 (a.c + b.c - 1) = true := inR_iff.2 ⟨by omega, by omega⟩
  have HIN := Lib.hid hin
  clear ha hb a1 a2 b1 b2 hin
  cases h1 : isMv (joinM a b)
  all_goals
    have H1 := Lib.hid h1
    go_enter Tryz.func61, Tryz.ntmps61
    go_wp2_with fail
    refine (IsMove_any (joinM a b) _).mono ?_
    rintro e w1 ⟨he, hq1⟩
    rw [H1.out] at he
    subst he
    have a1_0 : w1.cell? ⟨w.heap.size, 0, none⟩ = some (.int .i64 a.f.x) := (hq1.cell (by first | omega | (simp; done) | (simp; omega))).trans (by simp [go_sem])
    have a1_1 : w1.cell? ⟨w.heap.size, 1, none⟩ = some (.int .i64 a.f.y) := (hq1.cell (by first | omega | (simp; done) | (simp; omega))).trans (by simp [go_sem])
    have a1_2 : w1.cell? ⟨w.heap.size, 2, none⟩ = some (.int .i64 b.t.x) := (hq1.cell (by first | omega | (simp; done) | (simp; omega))).trans (by simp [go_sem])
    have a1_3 : w1.cell? ⟨w.heap.size, 3, none⟩ = some (.int .i64 b.t.y) := (hq1.cell (by first | omega | (simp; done) | (simp; omega))).trans (by simp [go_sem])
    have a1_4 : w1.cell? ⟨w.heap.size, 4, none⟩ = some (.int .i64 (a.c + b.c)) := (hq1.cell (by first | omega | (simp; done) | (simp; omega))).trans (by simp [go_sem])
    have b1_0 : w1.cell? ⟨w.heap.size + 1, 0, none⟩ = some (.int .i64 0) := (hq1.cell (by first | omega | (simp; done) | (simp; omega))).trans (by simp [go_sem])
    have b1_1 : w1.cell? ⟨w.heap.size + 1, 1, none⟩ = some (.int .i64 0) := (hq1.cell (by first | omega | (simp; done) | (simp; omega))).trans (by simp [go_sem])
    have b1_2 : w1.cell? ⟨w.heap.size + 1, 2, none⟩ = some (.int .i64 0) := (hq1.cell (by first | omega | (simp; done) | (simp; omega))).trans (by simp [go_sem])
    have b1_3 : w1.cell? ⟨w.heap.size + 1, 3, none⟩ = some (.int .i64 0) := (hq1.cell (by first | omega | (simp; done) | (simp; omega))).trans (by simp [go_sem])
    have b1_4 : w1.cell? ⟨w.heap.size + 1, 4, none⟩ = some (.int .i64 0) := (hq1.cell (by first | omega | (simp; done) | (simp; omega))).trans (by simp [go_sem])
    have c1_0 : w1.cell? ⟨w.heap.size + 1 + 1, 0, none⟩ = some (.int .i64 0) := (hq1.cell (by first | omega | (simp; done) | (simp; omega))).trans (by simp [go_sem])
    have c1_1 : w1.cell? ⟨w.heap.size + 1 + 1, 1, none⟩ = some (.int .i64 0) := (hq1.cell (by first | omega | (simp; done) | (simp; omega))).trans (by simp [go_sem])
    have c1_2 : w1.cell? ⟨w.heap.size + 1 + 1, 2, none⟩ = some (.int .i64 0) := (hq1.cell (by first | omega | (simp; done) | (simp; omega))).trans (by simp [go_sem])
    have c1_3 : w1.cell? ⟨w.heap.size + 1 + 1, 3, none⟩ = some (.int .i64 0) := (hq1.cell (by first | omega | (simp; done) | (simp; omega))).trans (by simp [go_sem])
    have c1_4 : w1.cell? ⟨w.heap.size + 1 + 1, 4, none⟩ = some (.int .i64 0) := (hq1.cell (by first | omega | (simp; done) | (simp; omega))).trans (by simp [go_sem])
    have y1_0 : w1.frozen? ⟨w.heap.size + 1, 0, none⟩ = false := (hq1.frozen (by first | omega | (simp; done) | (simp; omega))).trans (by simp [go_sem])
    have y1_1 : w1.frozen? ⟨w.heap.size + 1, 1, none⟩ = false := (hq1.frozen (by first | omega | (simp; done) | (simp; omega))).trans (by simp [go_sem])
    have y1_2 : w1.frozen? ⟨w.heap.size + 1, 2, none⟩ = false := (hq1.frozen (by first | omega | (simp; done) | (simp; omega))).trans (by simp [go_sem])
    have y1_3 : w1.frozen? ⟨w.heap.size + 1, 3, none⟩ = false := (hq1.frozen (by first | omega | (simp; done) | (simp; omega))).trans (by simp [go_sem])
    have y1_4 : w1.frozen? ⟨w.heap.size + 1, 4, none⟩ = false := (hq1.frozen (by first | omega | (simp; done) | (simp; omega))).trans (by simp [go_sem])
    have z1_0 : w1.frozen? ⟨w.heap.size + 1 + 1, 0, none⟩ = false := (hq1.frozen (by first | omega | (simp; done) | (simp; omega))).trans (by simp [go_sem])
    have z1_1 : w1.frozen? ⟨w.heap.size + 1 + 1, 1, none⟩ = false := (hq1.frozen (by first | omega | (simp; done) | (simp; omega))).trans (by simp [go_sem])
    have z1_2 : w1.frozen? ⟨w.heap.size + 1 + 1, 2, none⟩ = false := (hq1.frozen (by first | omega | (simp; done) | (simp; omega))).trans (by simp [go_sem])
    have z1_3 : w1.frozen? ⟨w.heap.size + 1 + 1, 3, none⟩ = false := (hq1.frozen (by first | omega | (simp; done) | (simp; omega))).trans (by simp [go_sem])
    have z1_4 : w1.frozen? ⟨w.heap.size + 1 + 1, 4, none⟩ = false := (hq1.frozen (by first | omega | (simp; done) | (simp; omega))).trans (by simp [go_sem])
    have BB1 := Lib.hid (Blk.below (show Blk (((w.alloc (.cells #[.int .i64 a.f.x, .int .i64 a.f.y, .int .i64 b.t.x, .int .i64 b.t.y, .int .i64 (a.c + b.c)] 49)).alloc (.cells #[.int .i64 0, .int .i64 0, .int .i64 0, .int .i64 0, .int .i64 0] 49)).alloc (.cells #[.int .i64 0, .int .i64 0, .int .i64 0, .int .i64 0, .int .i64 0] 49)) (w.heap.size + 1) #[.int .i64 0, .int .i64 0, .int .i64 0, .int .i64 0, .int .i64 0] 49 by have h := (Blk.new (w.alloc (.cells #[.int .i64 a.f.x, .int .i64 a.f.y, .int .i64 b.t.x, .int .i64 b.t.y, .int .i64 (a.c + b.c)] 49)) #[.int .i64 0, .int .i64 0, .int .i64 0, .int .i64 0, .int .i64 0] 49).alloc (.cells #[.int .i64 0, .int .i64 0, .int .i64 0, .int .i64 0, .int .i64 0] 49); rwa [size_allocJ] at h) hq1 (by simp))
    have BC1 := Lib.hid (Blk.below (show Blk (((w.alloc (.cells #[.int .i64 a.f.x, .int .i64 a.f.y, .int .i64 b.t.x, .int .i64 b.t.y, .int .i64 (a.c + b.c)] 49)).alloc (.cells #[.int .i64 0, .int .i64 0, .int .i64 0, .int .i64 0, .int .i64 0] 49)).alloc (.cells #[.int .i64 0, .int .i64 0, .int .i64 0, .int .i64 0, .int .i64 0] 49)) (w.heap.size + 1 + 1) #[.int .i64 0, .int .i64 0, .int .i64 0, .int .i64 0, .int .i64 0] 49 by have h := Blk.new ((w.alloc (.cells #[.int .i64 a.f.x, .int .i64 a.f.y, .int .i64 b.t.x, .int .i64 b.t.y, .int .i64 (a.c + b.c)] 49)).alloc (.cells #[.int .i64 0, .int .i64 0, .int .i64 0, .int .i64 0, .int .i64 0] 49)) #[.int .i64 0, .int .i64 0, .int .i64 0, .int .i64 0, .int .i64 0] 49; rwa [size_allocJ, size_allocJ] at h) hq1 (by simp))
    have hb1 : Below w.heap.size w w1 := by (repeat (first | exact Below.refl _ _ | assumption | (refine Below.alloc ?_ (by first | omega | (simp; done) | (simp; omega)) _) | (refine Below.setCell ?_ (by first | omega | (simp; done) | (simp; omega)) _) | (refine Below.drew ?_) | (refine Below.drewN ?_ _) | (refine Below.next (by assumption) ?_ (by first | omega | (simp; done) | (simp; omega)))))
    have gz0 : w.heap.size < w1.heap.size := World.block_lt_of_cell? _ _ a1_0
    have gz1 : w.heap.size + 1 < w1.heap.size := World.block_lt_of_cell? _ _ b1_0
    have gz2 : w.heap.size + 1 + 1 < w1.heap.size := World.block_lt_of_cell? _ _ c1_0
    clear hq1 h1
  · go_wp2_with fail
    exact bodyPost_ret (v := .tuple #[.agg #[.int .i64 0, .int .i64 0, .int .i64 0, .int .i64 0, .int .i64 0], .agg #[.int .i64 0, .int .i64 0, .int .i64 0, .int .i64 0, .int .i64 0], .bool false]) (by simp [results, Tryz.results61, go_sem, b1_0, b1_1, b1_2, b1_3, b1_4, c1_0, c1_1, c1_2, c1_3, c1_4]) rfl ⟨by rw [H1.out]; rfl, by repeat (first | with_reducible assumption | (refine Below.setCell ?_ (by first | omega | (simp; done) | (simp; omega)) _))⟩
  go_wp2_with (go_at_call 36; refine (within_any _ _ _ _).mono ?_; rintro e w' ⟨he, rfl⟩; rw [HIN.out] at he; subst he)
  cases h3 : isWh (joinM a b) a.c
  all_goals
    have H3 := Lib.hid h3
    refine (isWhole_any (joinM a b) a.c H1.out (by omega) hac _).mono ?_
    rintro e w2 ⟨he, hq2⟩
    rw [H3.out] at he
    subst he
    have a2_0 : w2.cell? ⟨w.heap.size, 0, none⟩ = some (.int .i64 a.f.x) := keep1 hq2 a1_0
    have a2_1 : w2.cell? ⟨w.heap.size, 1, none⟩ = some (.int .i64 a.f.y) := keep1 hq2 a1_1
    have a2_2 : w2.cell? ⟨w.heap.size, 2, none⟩ = some (.int .i64 b.t.x) := keep1 hq2 a1_2
    have a2_3 : w2.cell? ⟨w.heap.size, 3, none⟩ = some (.int .i64 b.t.y) := keep1 hq2 a1_3
    have a2_4 : w2.cell? ⟨w.heap.size, 4, none⟩ = some (.int .i64 (a.c + b.c)) := keep1 hq2 a1_4
    have b2_0 : w2.cell? ⟨w.heap.size + 1, 0, none⟩ = some (.int .i64 0) := keep1 hq2 b1_0
    have b2_1 : w2.cell? ⟨w.heap.size + 1, 1, none⟩ = some (.int .i64 0) := keep1 hq2 b1_1
    have b2_2 : w2.cell? ⟨w.heap.size + 1, 2, none⟩ = some (.int .i64 0) := keep1 hq2 b1_2
    have b2_3 : w2.cell? ⟨w.heap.size + 1, 3, none⟩ = some (.int .i64 0) := keep1 hq2 b1_3
    have b2_4 : w2.cell? ⟨w.heap.size + 1, 4, none⟩ = some (.int .i64 0) := keep1 hq2 b1_4
    have c2_0 : w2.cell? ⟨w.heap.size + 1 + 1, 0, none⟩ = some (.int .i64 0) := keep1 hq2 c1_0
    have c2_1 : w2.cell? ⟨w.heap.size + 1 + 1, 1, none⟩ = some (.int .i64 0) := keep1 hq2 c1_1
    have c2_2 : w2.cell? ⟨w.heap.size + 1 + 1, 2, none⟩ = some (.int .i64 0) := keep1 hq2 c1_2
    have c2_3 : w2.cell? ⟨w.heap.size + 1 + 1, 3, none⟩ = some (.int .i64 0) := keep1 hq2 c1_3
    have c2_4 : w2.cell? ⟨w.heap.size + 1 + 1, 4, none⟩ = some (.int .i64 0) := keep1 hq2 c1_4
    have y2_0 : w2.frozen? ⟨w.heap.size + 1, 0, none⟩ = false := (hq2.frozen (by (try dsimp only); omega)).trans y1_0
    have y2_1 : w2.frozen? ⟨w.heap.size + 1, 1, none⟩ = false := (hq2.frozen (by (try dsimp only); omega)).trans y1_1
    have y2_2 : w2.frozen? ⟨w.heap.size + 1, 2, none⟩ = false := (hq2.frozen (by (try dsimp only); omega)).trans y1_2
    have y2_3 : w2.frozen? ⟨w.heap.size + 1, 3, none⟩ = false := (hq2.frozen (by (try dsimp only); omega)).trans y1_3
    have y2_4 : w2.frozen? ⟨w.heap.size + 1, 4, none⟩ = false := (hq2.frozen (by (try dsimp only); omega)).trans y1_4
    have z2_0 : w2.frozen? ⟨w.heap.size + 1 + 1, 0, none⟩ = false := (hq2.frozen (by (try dsimp only); omega)).trans z1_0
    have z2_1 : w2.frozen? ⟨w.heap.size + 1 + 1, 1, none⟩ = false := (hq2.frozen (by (try dsimp only); omega)).trans z1_1
    have z2_2 : w2.frozen? ⟨w.heap.size + 1 + 1, 2, none⟩ = false := (hq2.frozen (by (try dsimp only); omega)).trans z1_2
    have z2_3 : w2.frozen? ⟨w.heap.size + 1 + 1, 3, none⟩ = false := (hq2.frozen (by (try dsimp only); omega)).trans z1_3
    have z2_4 : w2.frozen? ⟨w.heap.size + 1 + 1, 4, none⟩ = false := (hq2.frozen (by (try dsimp only); omega)).trans z1_4
    have BB2 := Lib.hid (BB1.out.below hq2 (by omega))
    have BC2 := Lib.hid (BC1.out.below hq2 (by omega))
    have hb2 : Below w.heap.size w w2 := by (repeat (first | exact Below.refl _ _ | assumption | (refine Below.alloc ?_ (by first | omega | (simp; done) | (simp; omega)) _) | (refine Below.setCell ?_ (by first | omega | (simp; done) | (simp; omega)) _) | (refine Below.drew ?_) | (refine Below.drewN ?_ _) | (refine Below.next (by assumption) ?_ (by first | omega | (simp; done) | (simp; omega)))))
    have gz3 : w.heap.size < w2.heap.size := World.block_lt_of_cell? _ _ a2_0
    have gz4 : w.heap.size + 1 < w2.heap.size := World.block_lt_of_cell? _ _ b2_0
    have gz5 : w.heap.size + 1 + 1 < w2.heap.size := World.block_lt_of_cell? _ _ c2_0
    clear hq2 h3 hb1 gz0 gz1 gz2 a1_0 a1_1 a1_2 a1_3 a1_4 b1_0 b1_1 b1_2 b1_3 b1_4 c1_0 c1_1 c1_2 c1_3 c1_4 y1_0 y1_1 y1_2 y1_3 y1_4 z1_0 z1_1 z1_2 z1_3 z1_4
  · go_wp2_with fail
    exact bodyPost_ret (v := .tuple #[.agg #[.int .i64 0, .int .i64 0, .int .i64 0, .int .i64 0, .int .i64 0], .agg #[.int .i64 0, .int .i64 0, .int .i64 0, .int .i64 0, .int .i64 0], .bool false]) (by simp [results, Tryz.results61, go_sem, b2_0, b2_1, b2_2, b2_3, b2_4, c2_0, c2_1, c2_2, c2_3, c2_4]) rfl ⟨by rw [H1.out, H3.out]; rfl, by repeat (first | with_reducible assumption | (refine Below.setCell ?_ (by first | omega | (simp; done) | (simp; omega)) _))⟩
  go_wp2_with fail
  refine (roundedAt_any (joinM a b) a.c H1.out (by omega) hac _).mono ?_
  rintro e w3 ⟨rfl, hq3⟩
  generalize hX : rnd (joinM a b) a.c = X at *
  have HX := Lib.hid hX
  clear hX
  have a3_0 : w3.cell? ⟨w.heap.size, 0, none⟩ = some (.int .i64 a.f.x) := keep1 hq3 a2_0
  have a3_1 : w3.cell? ⟨w.heap.size, 1, none⟩ = some (.int .i64 a.f.y) := keep1 hq3 a2_1
  have a3_2 : w3.cell? ⟨w.heap.size, 2, none⟩ = some (.int .i64 b.t.x) := keep1 hq3 a2_2
  have a3_3 : w3.cell? ⟨w.heap.size, 3, none⟩ = some (.int .i64 b.t.y) := keep1 hq3 a2_3
  have a3_4 : w3.cell? ⟨w.heap.size, 4, none⟩ = some (.int .i64 (a.c + b.c)) := keep1 hq3 a2_4
  have b3_0 : w3.cell? ⟨w.heap.size + 1, 0, none⟩ = some (.int .i64 0) := keep1 hq3 b2_0
  have b3_1 : w3.cell? ⟨w.heap.size + 1, 1, none⟩ = some (.int .i64 0) := keep1 hq3 b2_1
  have b3_2 : w3.cell? ⟨w.heap.size + 1, 2, none⟩ = some (.int .i64 0) := keep1 hq3 b2_2
  have b3_3 : w3.cell? ⟨w.heap.size + 1, 3, none⟩ = some (.int .i64 0) := keep1 hq3 b2_3
  have b3_4 : w3.cell? ⟨w.heap.size + 1, 4, none⟩ = some (.int .i64 0) := keep1 hq3 b2_4
  have c3_0 : w3.cell? ⟨w.heap.size + 1 + 1, 0, none⟩ = some (.int .i64 0) := keep1 hq3 c2_0
  have c3_1 : w3.cell? ⟨w.heap.size + 1 + 1, 1, none⟩ = some (.int .i64 0) := keep1 hq3 c2_1
  have c3_2 : w3.cell? ⟨w.heap.size + 1 + 1, 2, none⟩ = some (.int .i64 0) := keep1 hq3 c2_2
  have c3_3 : w3.cell? ⟨w.heap.size + 1 + 1, 3, none⟩ = some (.int .i64 0) := keep1 hq3 c2_3
  have c3_4 : w3.cell? ⟨w.heap.size + 1 + 1, 4, none⟩ = some (.int .i64 0) := keep1 hq3 c2_4
  have y3_0 : w3.frozen? ⟨w.heap.size + 1, 0, none⟩ = false := (hq3.frozen (by (try dsimp only); omega)).trans y2_0
  have y3_1 : w3.frozen? ⟨w.heap.size + 1, 1, none⟩ = false := (hq3.frozen (by (try dsimp only); omega)).trans y2_1
  have y3_2 : w3.frozen? ⟨w.heap.size + 1, 2, none⟩ = false := (hq3.frozen (by (try dsimp only); omega)).trans y2_2
  have y3_3 : w3.frozen? ⟨w.heap.size + 1, 3, none⟩ = false := (hq3.frozen (by (try dsimp only); omega)).trans y2_3
  have y3_4 : w3.frozen? ⟨w.heap.size + 1, 4, none⟩ = false := (hq3.frozen (by (try dsimp only); omega)).trans y2_4
  have z3_0 : w3.frozen? ⟨w.heap.size + 1 + 1, 0, none⟩ = false := (hq3.frozen (by (try dsimp only); omega)).trans z2_0
  have z3_1 : w3.frozen? ⟨w.heap.size + 1 + 1, 1, none⟩ = false := (hq3.frozen (by (try dsimp only); omega)).trans z2_1
  have z3_2 : w3.frozen? ⟨w.heap.size + 1 + 1, 2, none⟩ = false := (hq3.frozen (by (try dsimp only); omega)).trans z2_2
  have z3_3 : w3.frozen? ⟨w.heap.size + 1 + 1, 3, none⟩ = false := (hq3.frozen (by (try dsimp only); omega)).trans z2_3
  have z3_4 : w3.frozen? ⟨w.heap.size + 1 + 1, 4, none⟩ = false := (hq3.frozen (by (try dsimp only); omega)).trans z2_4
  have BB3 := Lib.hid (BB2.out.below hq3 (by omega))
  have BC3 := Lib.hid (BC2.out.below hq3 (by omega))
  have hb3 : Below w.heap.size w w3 := by (repeat (first | exact Below.refl _ _ | assumption | (refine Below.alloc ?_ (by first | omega | (simp; done) | (simp; omega)) _) | (refine Below.setCell ?_ (by first | omega | (simp; done) | (simp; omega)) _) | (refine Below.drew ?_) | (refine Below.drewN ?_ _) | (refine Below.next (by assumption) ?_ (by first | omega | (simp; done) | (simp; omega)))))
  have gz6 : w.heap.size < w3.heap.size := World.block_lt_of_cell? _ _ a3_0
  have gz7 : w.heap.size + 1 < w3.heap.size := World.block_lt_of_cell? _ _ b3_0
  have gz8 : w.heap.size + 1 + 1 < w3.heap.size := World.block_lt_of_cell? _ _ c3_0
  have hsub : IntKind.i64.wrap (a.c + b.c - a.c) = b.c := by rw [show a.c + b.c - a.c = b.c by omega]; exact IntWalk.i64_in _ (by omega)
  clear hq3 hb2 gz3 gz4 gz5 a2_0 a2_1 a2_2 a2_3 a2_4 b2_0 b2_1 b2_2 b2_3 b2_4 c2_0 c2_1 c2_2 c2_3 c2_4 y2_0 y2_1 y2_2 y2_3 y2_4 z2_0 z2_1 z2_2 z2_3 z2_4
  have a4_0 : (w3.alloc (.cells #[.int .i64 X.x, .int .i64 X.y] 25)).cell? ⟨w.heap.size, 0, none⟩ = some (.int .i64 a.f.x) := keep1 ((Below.refl _ _).alloc (Nat.le_refl _) _) a3_0
  have a4_1 : (w3.alloc (.cells #[.int .i64 X.x, .int .i64 X.y] 25)).cell? ⟨w.heap.size, 1, none⟩ = some (.int .i64 a.f.y) := keep1 ((Below.refl _ _).alloc (Nat.le_refl _) _) a3_1
  have a4_2 : (w3.alloc (.cells #[.int .i64 X.x, .int .i64 X.y] 25)).cell? ⟨w.heap.size, 2, none⟩ = some (.int .i64 b.t.x) := keep1 ((Below.refl _ _).alloc (Nat.le_refl _) _) a3_2
  have a4_3 : (w3.alloc (.cells #[.int .i64 X.x, .int .i64 X.y] 25)).cell? ⟨w.heap.size, 3, none⟩ = some (.int .i64 b.t.y) := keep1 ((Below.refl _ _).alloc (Nat.le_refl _) _) a3_3
  have a4_4 : (w3.alloc (.cells #[.int .i64 X.x, .int .i64 X.y] 25)).cell? ⟨w.heap.size, 4, none⟩ = some (.int .i64 (a.c + b.c)) := keep1 ((Below.refl _ _).alloc (Nat.le_refl _) _) a3_4
  have b4_0 : (w3.alloc (.cells #[.int .i64 X.x, .int .i64 X.y] 25)).cell? ⟨w.heap.size + 1, 0, none⟩ = some (.int .i64 0) := keep1 ((Below.refl _ _).alloc (Nat.le_refl _) _) b3_0
  have b4_1 : (w3.alloc (.cells #[.int .i64 X.x, .int .i64 X.y] 25)).cell? ⟨w.heap.size + 1, 1, none⟩ = some (.int .i64 0) := keep1 ((Below.refl _ _).alloc (Nat.le_refl _) _) b3_1
  have b4_2 : (w3.alloc (.cells #[.int .i64 X.x, .int .i64 X.y] 25)).cell? ⟨w.heap.size + 1, 2, none⟩ = some (.int .i64 0) := keep1 ((Below.refl _ _).alloc (Nat.le_refl _) _) b3_2
  have b4_3 : (w3.alloc (.cells #[.int .i64 X.x, .int .i64 X.y] 25)).cell? ⟨w.heap.size + 1, 3, none⟩ = some (.int .i64 0) := keep1 ((Below.refl _ _).alloc (Nat.le_refl _) _) b3_3
  have b4_4 : (w3.alloc (.cells #[.int .i64 X.x, .int .i64 X.y] 25)).cell? ⟨w.heap.size + 1, 4, none⟩ = some (.int .i64 0) := keep1 ((Below.refl _ _).alloc (Nat.le_refl _) _) b3_4
  have c4_0 : (w3.alloc (.cells #[.int .i64 X.x, .int .i64 X.y] 25)).cell? ⟨w.heap.size + 1 + 1, 0, none⟩ = some (.int .i64 0) := keep1 ((Below.refl _ _).alloc (Nat.le_refl _) _) c3_0
  have c4_1 : (w3.alloc (.cells #[.int .i64 X.x, .int .i64 X.y] 25)).cell? ⟨w.heap.size + 1 + 1, 1, none⟩ = some (.int .i64 0) := keep1 ((Below.refl _ _).alloc (Nat.le_refl _) _) c3_1
  have c4_2 : (w3.alloc (.cells #[.int .i64 X.x, .int .i64 X.y] 25)).cell? ⟨w.heap.size + 1 + 1, 2, none⟩ = some (.int .i64 0) := keep1 ((Below.refl _ _).alloc (Nat.le_refl _) _) c3_2
  have c4_3 : (w3.alloc (.cells #[.int .i64 X.x, .int .i64 X.y] 25)).cell? ⟨w.heap.size + 1 + 1, 3, none⟩ = some (.int .i64 0) := keep1 ((Below.refl _ _).alloc (Nat.le_refl _) _) c3_3
  have c4_4 : (w3.alloc (.cells #[.int .i64 X.x, .int .i64 X.y] 25)).cell? ⟨w.heap.size + 1 + 1, 4, none⟩ = some (.int .i64 0) := keep1 ((Below.refl _ _).alloc (Nat.le_refl _) _) c3_4
  have y4_0 : (w3.alloc (.cells #[.int .i64 X.x, .int .i64 X.y] 25)).frozen? ⟨w.heap.size + 1, 0, none⟩ = false := (((Below.refl _ _).alloc (Nat.le_refl _) _ : Below w3.heap.size w3 (w3.alloc (.cells #[.int .i64 X.x, .int .i64 X.y] 25))).frozen (by (try dsimp only); omega)).trans y3_0
  have y4_1 : (w3.alloc (.cells #[.int .i64 X.x, .int .i64 X.y] 25)).frozen? ⟨w.heap.size + 1, 1, none⟩ = false := (((Below.refl _ _).alloc (Nat.le_refl _) _ : Below w3.heap.size w3 (w3.alloc (.cells #[.int .i64 X.x, .int .i64 X.y] 25))).frozen (by (try dsimp only); omega)).trans y3_1
  have y4_2 : (w3.alloc (.cells #[.int .i64 X.x, .int .i64 X.y] 25)).frozen? ⟨w.heap.size + 1, 2, none⟩ = false := (((Below.refl _ _).alloc (Nat.le_refl _) _ : Below w3.heap.size w3 (w3.alloc (.cells #[.int .i64 X.x, .int .i64 X.y] 25))).frozen (by (try dsimp only); omega)).trans y3_2
  have y4_3 : (w3.alloc (.cells #[.int .i64 X.x, .int .i64 X.y] 25)).frozen? ⟨w.heap.size + 1, 3, none⟩ = false := (((Below.refl _ _).alloc (Nat.le_refl _) _ : Below w3.heap.size w3 (w3.alloc (.cells #[.int .i64 X.x, .int .i64 X.y] 25))).frozen (by (try dsimp only); omega)).trans y3_3
  have y4_4 : (w3.alloc (.cells #[.int .i64 X.x, .int .i64 X.y] 25)).frozen? ⟨w.heap.size + 1, 4, none⟩ = false := (((Below.refl _ _).alloc (Nat.le_refl _) _ : Below w3.heap.size w3 (w3.alloc (.cells #[.int .i64 X.x, .int .i64 X.y] 25))).frozen (by (try dsimp only); omega)).trans y3_4
  have z4_0 : (w3.alloc (.cells #[.int .i64 X.x, .int .i64 X.y] 25)).frozen? ⟨w.heap.size + 1 + 1, 0, none⟩ = false := (((Below.refl _ _).alloc (Nat.le_refl _) _ : Below w3.heap.size w3 (w3.alloc (.cells #[.int .i64 X.x, .int .i64 X.y] 25))).frozen (by (try dsimp only); omega)).trans z3_0
  have z4_1 : (w3.alloc (.cells #[.int .i64 X.x, .int .i64 X.y] 25)).frozen? ⟨w.heap.size + 1 + 1, 1, none⟩ = false := (((Below.refl _ _).alloc (Nat.le_refl _) _ : Below w3.heap.size w3 (w3.alloc (.cells #[.int .i64 X.x, .int .i64 X.y] 25))).frozen (by (try dsimp only); omega)).trans z3_1
  have z4_2 : (w3.alloc (.cells #[.int .i64 X.x, .int .i64 X.y] 25)).frozen? ⟨w.heap.size + 1 + 1, 2, none⟩ = false := (((Below.refl _ _).alloc (Nat.le_refl _) _ : Below w3.heap.size w3 (w3.alloc (.cells #[.int .i64 X.x, .int .i64 X.y] 25))).frozen (by (try dsimp only); omega)).trans z3_2
  have z4_3 : (w3.alloc (.cells #[.int .i64 X.x, .int .i64 X.y] 25)).frozen? ⟨w.heap.size + 1 + 1, 3, none⟩ = false := (((Below.refl _ _).alloc (Nat.le_refl _) _ : Below w3.heap.size w3 (w3.alloc (.cells #[.int .i64 X.x, .int .i64 X.y] 25))).frozen (by (try dsimp only); omega)).trans z3_3
  have z4_4 : (w3.alloc (.cells #[.int .i64 X.x, .int .i64 X.y] 25)).frozen? ⟨w.heap.size + 1 + 1, 4, none⟩ = false := (((Below.refl _ _).alloc (Nat.le_refl _) _ : Below w3.heap.size w3 (w3.alloc (.cells #[.int .i64 X.x, .int .i64 X.y] 25))).frozen (by (try dsimp only); omega)).trans z3_4
  have BB4 := Lib.hid (BB3.out.alloc (.cells #[.int .i64 X.x, .int .i64 X.y] 25))
  have BC4 := Lib.hid (BC3.out.alloc (.cells #[.int .i64 X.x, .int .i64 X.y] 25))
  have hb4 : Below w.heap.size w (w3.alloc (.cells #[.int .i64 X.x, .int .i64 X.y] 25)) := by (repeat (first | exact Below.refl _ _ | assumption | (refine Below.alloc ?_ (by first | omega | (simp; done) | (simp; omega)) _) | (refine Below.setCell ?_ (by first | omega | (simp; done) | (simp; omega)) _) | (refine Below.drew ?_) | (refine Below.drewN ?_ _) | (refine Below.next (by assumption) ?_ (by first | omega | (simp; done) | (simp; omega)))))
  have hs4 : (w3.alloc (.cells #[.int .i64 X.x, .int .i64 X.y] 25)).heap.size = w3.heap.size + 1 := by simp
  have x4_0 : (w3.alloc (.cells #[.int .i64 X.x, .int .i64 X.y] 25)).cell? ⟨w3.heap.size, 0, none⟩ = some (.int .i64 X.x) := by simp [go_sem]
  have x4_1 : (w3.alloc (.cells #[.int .i64 X.x, .int .i64 X.y] 25)).cell? ⟨w3.heap.size, 1, none⟩ = some (.int .i64 X.y) := by simp [go_sem]
  clear hb3 a3_0 a3_1 a3_2 a3_3 a3_4 b3_0 b3_1 b3_2 b3_3 b3_4 c3_0 c3_1 c3_2 c3_3 c3_4 y3_0 y3_1 y3_2 y3_3 y3_4 z3_0 z3_1 z3_2 z3_3 z3_4
  go_wp2_with fail
  generalize w3.alloc (.cells #[.int .i64 X.x, .int .i64 X.y] 25) = W4 at *
  have ne1 : ¬ w3.heap.size = w.heap.size + 1 := by omega
  have ne2 : ¬ w3.heap.size = w.heap.size + 1 + 1 := by omega
  have ne3 : ¬ w.heap.size + 1 = w3.heap.size := by omega
  have ne4 : ¬ w.heap.size + 1 + 1 = w3.heap.size := by omega
  go_region
  have HBB : Blk ((((((((((W4.setCell ⟨w.heap.size + 1, 0, none⟩ (.int .i64 a.f.x)).setCell ⟨w.heap.size + 1, 1, none⟩ (.int .i64 a.f.y)).setCell ⟨w.heap.size + 1, 2, none⟩ (.int .i64 X.x)).setCell ⟨w.heap.size + 1, 3, none⟩ (.int .i64 X.y)).setCell ⟨w.heap.size + 1, 4, none⟩ (.int .i64 a.c)).setCell ⟨w.heap.size + 1 + 1, 0, none⟩ (.int .i64 X.x)).setCell ⟨w.heap.size + 1 + 1, 1, none⟩ (.int .i64 X.y)).setCell ⟨w.heap.size + 1 + 1, 2, none⟩ (.int .i64 b.t.x)).setCell ⟨w.heap.size + 1 + 1, 3, none⟩ (.int .i64 b.t.y)).setCell ⟨w.heap.size + 1 + 1, 4, none⟩ (.int .i64 b.c)) (w.heap.size + 1) #[.int .i64 a.f.x, .int .i64 a.f.y, .int .i64 X.x, .int .i64 X.y, .int .i64 a.c] 49 := ((((((((((BB4.out.set 0 _).set 1 _).set 2 _).set 3 _).set 4 _).other (by omega) _).other (by omega) _).other (by omega) _).other (by omega) _).other (by omega) _)
  have HCC : Blk ((((((((((W4.setCell ⟨w.heap.size + 1, 0, none⟩ (.int .i64 a.f.x)).setCell ⟨w.heap.size + 1, 1, none⟩ (.int .i64 a.f.y)).setCell ⟨w.heap.size + 1, 2, none⟩ (.int .i64 X.x)).setCell ⟨w.heap.size + 1, 3, none⟩ (.int .i64 X.y)).setCell ⟨w.heap.size + 1, 4, none⟩ (.int .i64 a.c)).setCell ⟨w.heap.size + 1 + 1, 0, none⟩ (.int .i64 X.x)).setCell ⟨w.heap.size + 1 + 1, 1, none⟩ (.int .i64 X.y)).setCell ⟨w.heap.size + 1 + 1, 2, none⟩ (.int .i64 b.t.x)).setCell ⟨w.heap.size + 1 + 1, 3, none⟩ (.int .i64 b.t.y)).setCell ⟨w.heap.size + 1 + 1, 4, none⟩ (.int .i64 b.c)) (w.heap.size + 1 + 1) #[.int .i64 X.x, .int .i64 X.y, .int .i64 b.t.x, .int .i64 b.t.y, .int .i64 b.c] 49 := ((((((((((BC4.out.other (by omega) _).other (by omega) _).other (by omega) _).other (by omega) _).other (by omega) _).set 0 _).set 1 _).set 2 _).set 3 _).set 4 _)
  have hbF : Below w.heap.size w ((((((((((W4.setCell ⟨w.heap.size + 1, 0, none⟩ (.int .i64 a.f.x)).setCell ⟨w.heap.size + 1, 1, none⟩ (.int .i64 a.f.y)).setCell ⟨w.heap.size + 1, 2, none⟩ (.int .i64 X.x)).setCell ⟨w.heap.size + 1, 3, none⟩ (.int .i64 X.y)).setCell ⟨w.heap.size + 1, 4, none⟩ (.int .i64 a.c)).setCell ⟨w.heap.size + 1 + 1, 0, none⟩ (.int .i64 X.x)).setCell ⟨w.heap.size + 1 + 1, 1, none⟩ (.int .i64 X.y)).setCell ⟨w.heap.size + 1 + 1, 2, none⟩ (.int .i64 b.t.x)).setCell ⟨w.heap.size + 1 + 1, 3, none⟩ (.int .i64 b.t.y)).setCell ⟨w.heap.size + 1 + 1, 4, none⟩ (.int .i64 b.c)) := ((((((((((hb4.setCell (by (try dsimp only); omega) _).setCell (by (try dsimp only); omega) _).setCell (by (try dsimp only); omega) _).setCell (by (try dsimp only); omega) _).setCell (by (try dsimp only); omega) _).setCell (by (try dsimp only); omega) _).setCell (by (try dsimp only); omega) _).setCell (by (try dsimp only); omega) _).setCell (by (try dsimp only); omega) _).setCell (by (try dsimp only); omega) _)
  clear b4_0 b4_1 b4_2 b4_3 b4_4 c4_0 c4_1 c4_2 c4_3 c4_4 y4_0 y4_1 y4_2 y4_3 y4_4 z4_0 z4_1 z4_2 z4_3 z4_4
  generalize ((((((((((W4.setCell ⟨w.heap.size + 1, 0, none⟩ (.int .i64 a.f.x)).setCell ⟨w.heap.size + 1, 1, none⟩ (.int .i64 a.f.y)).setCell ⟨w.heap.size + 1, 2, none⟩ (.int .i64 X.x)).setCell ⟨w.heap.size + 1, 3, none⟩ (.int .i64 X.y)).setCell ⟨w.heap.size + 1, 4, none⟩ (.int .i64 a.c)).setCell ⟨w.heap.size + 1 + 1, 0, none⟩ (.int .i64 X.x)).setCell ⟨w.heap.size + 1 + 1, 1, none⟩ (.int .i64 X.y)).setCell ⟨w.heap.size + 1 + 1, 2, none⟩ (.int .i64 b.t.x)).setCell ⟨w.heap.size + 1 + 1, 3, none⟩ (.int .i64 b.t.y)).setCell ⟨w.heap.size + 1 + 1, 4, none⟩ (.int .i64 b.c)) = WF at *
  have B0 : WF.cell? ⟨w.heap.size + 1, 0, none⟩ = some (.int .i64 a.f.x) := (HBB.cell 0).trans rfl
  have B1 : WF.cell? ⟨w.heap.size + 1, 1, none⟩ = some (.int .i64 a.f.y) := (HBB.cell 1).trans rfl
  have B2 : WF.cell? ⟨w.heap.size + 1, 2, none⟩ = some (.int .i64 X.x) := (HBB.cell 2).trans rfl
  have B3 : WF.cell? ⟨w.heap.size + 1, 3, none⟩ = some (.int .i64 X.y) := (HBB.cell 3).trans rfl
  have B4 : WF.cell? ⟨w.heap.size + 1, 4, none⟩ = some (.int .i64 a.c) := (HBB.cell 4).trans rfl
  have C0 : WF.cell? ⟨w.heap.size + 1 + 1, 0, none⟩ = some (.int .i64 X.x) := (HCC.cell 0).trans rfl
  have C1 : WF.cell? ⟨w.heap.size + 1 + 1, 1, none⟩ = some (.int .i64 X.y) := (HCC.cell 1).trans rfl
  have C2 : WF.cell? ⟨w.heap.size + 1 + 1, 2, none⟩ = some (.int .i64 b.t.x) := (HCC.cell 2).trans rfl
  have C3 : WF.cell? ⟨w.heap.size + 1 + 1, 3, none⟩ = some (.int .i64 b.t.y) := (HCC.cell 3).trans rfl
  have C4 : WF.cell? ⟨w.heap.size + 1 + 1, 4, none⟩ = some (.int .i64 b.c) := (HCC.cell 4).trans rfl
  go_wp2_with fail
  exact bodyPost_ret (v := .tuple #[.agg #[.int .i64 a.f.x, .int .i64 a.f.y, .int .i64 X.x, .int .i64 X.y, .int .i64 a.c], .agg #[.int .i64 X.x, .int .i64 X.y, .int .i64 b.t.x, .int .i64 b.t.y, .int .i64 b.c], .bool true]) (by simp [results, Tryz.results61, go_sem, B0, B1, B2, B3, B4, C0, C1, C2, C3, C4]) rfl ⟨by rw [H1.out, H3.out]; simp [HX.out], hbF.drew⟩

end Go.Proofs.YtdmgffcabjpihaaGreatDoor
