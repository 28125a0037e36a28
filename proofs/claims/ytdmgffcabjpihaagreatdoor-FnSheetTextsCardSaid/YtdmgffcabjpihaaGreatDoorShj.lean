/-
  Contracts: moves that are joined, the program's and the reference's.
-/
import Derived.Test.YtdmgffcabjpihaaGreatDoorSho
import Derived.BigRegion
namespace Go.Proofs.YtdmgffcabjpihaaGreatDoor
open Go.RowKit Go.Sort

def isWh (m : Mv) (k : Int) : Bool := decide (plX m k % m.c = 0) && decide (plY m k % m.c = 0)
def joinM (a b : Mv) : Mv := ⟨a.f, b.t, a.c + b.c⟩
def joinOk (a b : Mv) : Bool := ((isMv (joinM a b) && decide (a.t = b.f)) && isWh (joinM a b) a.c) && decide (rnd (joinM a b) a.c = a.t)
def RetMvB (w : World) (v : Mv) (ok : Bool) (e : Ending) (w' : World) : Prop := e = .returned (.tuple #[.agg #[.int .i64 v.f.x, .int .i64 v.f.y, .int .i64 v.t.x, .int .i64 v.t.y, .int .i64 v.c], .bool ok]) ∧ Below w.heap.size w w'
def joinV (a b : Mv) : Mv := if joinOk a b then joinM a b else ⟨⟨0, 0⟩, ⟨0, 0⟩, 0⟩
theorem RetMvB.yes {w w' : World} {a b : Mv} (h : joinOk a b = true) (hb : Below w.heap.size w w') : RetMvB w (joinV a b) (joinOk a b) (.returned (.tuple #[.agg #[.int .i64 a.f.x, .int .i64 a.f.y, .int .i64 b.t.x, .int .i64 b.t.y, .int .i64 (a.c + b.c)], .bool true])) w' :=
  ⟨by simp [joinV, h, joinM], hb⟩
theorem RetMvB.no {w w' : World} {a b : Mv} (h : joinOk a b = false) (hb : Below w.heap.size w w') : RetMvB w (joinV a b) (joinOk a b) (.returned (.tuple #[.agg #[.int .i64 0, .int .i64 0, .int .i64 0, .int .i64 0, .int .i64 0], .bool false])) w' :=
  ⟨by simp [joinV, h], hb⟩

set_option maxRecDepth 100000 in
theorem mvGood_any (m : Mv) (w : World) : Calls Tryz.prog 62 #[.agg #[.int .i64 m.f.x, .int .i64 m.f.y, .int .i64 m.t.x, .int .i64 m.t.y, .int .i64 m.c]] w fun e w' => e = .returned (.bool (isMv m)) ∧ Below w.heap.size w w' := by
  have e0 : Hid (isMv m = ((isSp m.f && isSp m.t) && inR m.c 1 64)) := Lib.hid rfl
  cases h1 : isSp m.f
  · go_enter Tryz.func62, Tryz.ntmps62
    go_wp2_with (first | (go_at_call 57; refine (stGood_any _ _).mono ?_; rintro e w' ⟨rfl, o, rfl⟩) | (go_at_call 49; refine (l1In_any _ _ _ _).mono ?_; rintro e w' ⟨rfl, rfl⟩))
    go_ret
    exact ⟨ret_bool (by rw [e0.out, h1]; rfl), by (repeat (first | exact Below.refl _ _ | assumption | (refine Below.alloc ?_ (by first | omega | (simp; done) | (simp; omega)) _) | (refine Below.setCell ?_ (by first | omega | (simp; done) | (simp; omega)) _) | (refine Below.drew ?_) | (refine Below.drewN ?_ _) | (refine Below.next (by assumption) ?_ (by first | omega | (simp; done) | (simp; omega)))))⟩
  cases h2 : isSp m.t
  · go_enter Tryz.func62, Tryz.ntmps62
    go_wp2_with (first | (go_at_call 57; refine (stGood_any _ _).mono ?_; rintro e w' ⟨rfl, o, rfl⟩) | (go_at_call 49; refine (l1In_any _ _ _ _).mono ?_; rintro e w' ⟨rfl, rfl⟩))
    go_ret
    exact ⟨ret_bool (by rw [e0.out, h1, h2]; rfl), by (repeat (first | exact Below.refl _ _ | assumption | (refine Below.alloc ?_ (by first | omega | (simp; done) | (simp; omega)) _) | (refine Below.setCell ?_ (by first | omega | (simp; done) | (simp; omega)) _) | (refine Below.drew ?_) | (refine Below.drewN ?_ _) | (refine Below.next (by assumption) ?_ (by first | omega | (simp; done) | (simp; omega)))))⟩
  · go_enter Tryz.func62, Tryz.ntmps62
    go_wp2_with (first | (go_at_call 57; refine (stGood_any _ _).mono ?_; rintro e w' ⟨rfl, o, rfl⟩) | (go_at_call 49; refine (l1In_any _ _ _ _).mono ?_; rintro e w' ⟨rfl, rfl⟩))
    go_ret
    exact ⟨ret_bool (by rw [e0.out, h1, h2]; rfl), by (repeat (first | exact Below.refl _ _ | assumption | (refine Below.alloc ?_ (by first | omega | (simp; done) | (simp; omega)) _) | (refine Below.setCell ?_ (by first | omega | (simp; done) | (simp; omega)) _) | (refine Below.drew ?_) | (refine Below.drewN ?_ _) | (refine Below.next (by assumption) ?_ (by first | omega | (simp; done) | (simp; omega)))))⟩

set_option maxRecDepth 100000 in
theorem IsMove_any (m : Mv) (w : World) : Calls Tryz.prog 60 #[.agg #[.int .i64 m.f.x, .int .i64 m.f.y, .int .i64 m.t.x, .int .i64 m.t.y, .int .i64 m.c]] w fun e w' => e = .returned (.bool (isMv m)) ∧ Below w.heap.size w w' := by
  have e0 : Hid (isMv m = ((isSp m.f && isSp m.t) && inR m.c 1 64)) := Lib.hid rfl
  cases h1 : isSp m.f
  · go_enter Tryz.func60, Tryz.ntmps60
    go_wp2_with (first | (go_at_call 37; refine (isSpot_any _ _).mono ?_; rintro e w' ⟨rfl, o, rfl⟩) | (go_at_call 36; refine (within_any _ _ _ _).mono ?_; rintro e w' ⟨rfl, rfl⟩))
    go_ret
    exact ⟨ret_bool (by rw [e0.out, h1]; rfl), by (repeat (first | exact Below.refl _ _ | assumption | (refine Below.alloc ?_ (by first | omega | (simp; done) | (simp; omega)) _) | (refine Below.setCell ?_ (by first | omega | (simp; done) | (simp; omega)) _) | (refine Below.drew ?_) | (refine Below.drewN ?_ _) | (refine Below.next (by assumption) ?_ (by first | omega | (simp; done) | (simp; omega)))))⟩
  cases h2 : isSp m.t
  · go_enter Tryz.func60, Tryz.ntmps60
    go_wp2_with (first | (go_at_call 37; refine (isSpot_any _ _).mono ?_; rintro e w' ⟨rfl, o, rfl⟩) | (go_at_call 36; refine (within_any _ _ _ _).mono ?_; rintro e w' ⟨rfl, rfl⟩))
    go_ret
    exact ⟨ret_bool (by rw [e0.out, h1, h2]; rfl), by (repeat (first | exact Below.refl _ _ | assumption | (refine Below.alloc ?_ (by first | omega | (simp; done) | (simp; omega)) _) | (refine Below.setCell ?_ (by first | omega | (simp; done) | (simp; omega)) _) | (refine Below.drew ?_) | (refine Below.drewN ?_ _) | (refine Below.next (by assumption) ?_ (by first | omega | (simp; done) | (simp; omega)))))⟩
  · go_enter Tryz.func60, Tryz.ntmps60
    go_wp2_with (first | (go_at_call 37; refine (isSpot_any _ _).mono ?_; rintro e w' ⟨rfl, o, rfl⟩) | (go_at_call 36; refine (within_any _ _ _ _).mono ?_; rintro e w' ⟨rfl, rfl⟩))
    go_ret
    exact ⟨ret_bool (by rw [e0.out, h1, h2]; rfl), by (repeat (first | exact Below.refl _ _ | assumption | (refine Below.alloc ?_ (by first | omega | (simp; done) | (simp; omega)) _) | (refine Below.setCell ?_ (by first | omega | (simp; done) | (simp; omega)) _) | (refine Below.drew ?_) | (refine Below.drewN ?_ _) | (refine Below.next (by assumption) ?_ (by first | omega | (simp; done) | (simp; omega)))))⟩

set_option maxHeartbeats 800000 in
set_option maxRecDepth 100000 in
theorem mvWhole_any (m : Mv) (k : Int) (hm : isMv m = true) (h0 : 0 ≤ k) (h1 : k ≤ m.c) (w : World) : Calls Tryz.prog 63 #[.agg #[.int .i64 m.f.x, .int .i64 m.f.y, .int .i64 m.t.x, .int .i64 m.t.y, .int .i64 m.c], .int .i64 k] w fun e w' => e = .returned (.bool (isWh m k)) ∧ Below w.heap.size w w' := by
  obtain ⟨g1, g2, g3, g4⟩ := isMv_iff.1 hm
  obtain ⟨hx0, hx1⟩ := plX_bd hm h0 h1
  obtain ⟨hy0, hy1⟩ := plY_bd hm h0 h1
  have hcall := mvAt_any m k hm h0 h1
  have e0 : Hid (isWh m k = (decide (plX m k % m.c = 0) && decide (plY m k % m.c = 0))) := Lib.hid rfl
  clear hm g1 g2
  generalize plX m k = X at *
  generalize plY m k = Y at *
  by_cases e1 : X % m.c = 0
  all_goals
    have E1 := Lib.hid e1
    have hne : ¬ m.c = 0 := by omega
    go_enter Tryz.func63, Tryz.ntmps63
    go_wp2_with fail
    refine (hcall _).mono ?_
    rintro e w1 ⟨rfl, hq⟩
    have f4 : w1.cell? ⟨w.heap.size, 4, none⟩ = some (.int .i64 m.c) := (hq.cell (by simp)).trans (by simp [go_sem])
    have hb : Below w.heap.size w w1 := by (repeat (first | exact Below.refl _ _ | assumption | (refine Below.alloc ?_ (by first | omega | (simp; done) | (simp; omega)) _) | (refine Below.setCell ?_ (by first | omega | (simp; done) | (simp; omega)) _) | (refine Below.drew ?_) | (refine Below.drewN ?_ _) | (refine Below.next (by assumption) ?_ (by first | omega | (simp; done) | (simp; omega)))))
    clear hq hcall
  · have e2 : (X % m.c == 0) = true := by simpa using e1
    clear e1
    go_wp2_with fail
    go_ret
    exact ⟨ret_bool (by rw [e0.out, decide_eq_true E1.out]; by_cases h : Y % m.c = 0 <;> simp [h]), by (repeat (first | exact Below.refl _ _ | assumption | (refine Below.alloc ?_ (by first | omega | (simp; done) | (simp; omega)) _) | (refine Below.setCell ?_ (by first | omega | (simp; done) | (simp; omega)) _) | (refine Below.drew ?_) | (refine Below.drewN ?_ _) | (refine Below.next (by assumption) ?_ (by first | omega | (simp; done) | (simp; omega)))))⟩
  · have e2 : (X % m.c == 0) = false := by simpa using e1
    clear e1
    go_wp2_with fail
    go_ret
    exact ⟨ret_bool (by rw [e0.out, decide_eq_false E1.out]; rfl), by (repeat (first | exact Below.refl _ _ | assumption | (refine Below.alloc ?_ (by first | omega | (simp; done) | (simp; omega)) _) | (refine Below.setCell ?_ (by first | omega | (simp; done) | (simp; omega)) _) | (refine Below.drew ?_) | (refine Below.drewN ?_ _) | (refine Below.next (by assumption) ?_ (by first | omega | (simp; done) | (simp; omega)))))⟩

set_option maxHeartbeats 800000 in
set_option maxRecDepth 100000 in
theorem isWhole_any (m : Mv) (k : Int) (hm : isMv m = true) (h0 : 0 ≤ k) (h1 : k ≤ m.c) (w : World) : Calls Tryz.prog 81 #[.agg #[.int .i64 m.f.x, .int .i64 m.f.y, .int .i64 m.t.x, .int .i64 m.t.y, .int .i64 m.c], .int .i64 k] w fun e w' => e = .returned (.bool (isWh m k)) ∧ Below w.heap.size w w' := by
  obtain ⟨g1, g2, g3, g4⟩ := isMv_iff.1 hm
  obtain ⟨hx0, hx1⟩ := plX_bd hm h0 h1
  obtain ⟨hy0, hy1⟩ := plY_bd hm h0 h1
  have hcall := placeAt_any m k hm h0 h1
  have e0 : Hid (isWh m k = (decide (plX m k % m.c = 0) && decide (plY m k % m.c = 0))) := Lib.hid rfl
  clear hm g1 g2
  generalize plX m k = X at *
  generalize plY m k = Y at *
  by_cases e1 : X % m.c = 0
  all_goals
    have E1 := Lib.hid e1
    have hne : ¬ m.c = 0 := by omega
    go_enter Tryz.func81, Tryz.ntmps81
    go_wp2_with fail
    refine (hcall _).mono ?_
    rintro e w1 ⟨rfl, hq⟩
    have f4 : w1.cell? ⟨w.heap.size, 4, none⟩ = some (.int .i64 m.c) := (hq.cell (by simp)).trans (by simp [go_sem])
    have hb : Below w.heap.size w w1 := by (repeat (first | exact Below.refl _ _ | assumption | (refine Below.alloc ?_ (by first | omega | (simp; done) | (simp; omega)) _) | (refine Below.setCell ?_ (by first | omega | (simp; done) | (simp; omega)) _) | (refine Below.drew ?_) | (refine Below.drewN ?_ _) | (refine Below.next (by assumption) ?_ (by first | omega | (simp; done) | (simp; omega)))))
    clear hq hcall
  · have e2 : (X % m.c == 0) = true := by simpa using e1
    clear e1
    go_wp2_with fail
    go_ret
    exact ⟨ret_bool (by rw [e0.out, decide_eq_true E1.out]; by_cases h : Y % m.c = 0 <;> simp [h]), by (repeat (first | exact Below.refl _ _ | assumption | (refine Below.alloc ?_ (by first | omega | (simp; done) | (simp; omega)) _) | (refine Below.setCell ?_ (by first | omega | (simp; done) | (simp; omega)) _) | (refine Below.drew ?_) | (refine Below.drewN ?_ _) | (refine Below.next (by assumption) ?_ (by first | omega | (simp; done) | (simp; omega)))))⟩
  · have e2 : (X % m.c == 0) = false := by simpa using e1
    clear e1
    go_wp2_with fail
    go_ret
    exact ⟨ret_bool (by rw [e0.out, decide_eq_false E1.out]; rfl), by (repeat (first | exact Below.refl _ _ | assumption | (refine Below.alloc ?_ (by first | omega | (simp; done) | (simp; omega)) _) | (refine Below.setCell ?_ (by first | omega | (simp; done) | (simp; omega)) _) | (refine Below.drew ?_) | (refine Below.drewN ?_ _) | (refine Below.next (by assumption) ?_ (by first | omega | (simp; done) | (simp; omega)))))⟩

theorem ne_of {a b : Sp} (h : ¬ a = b) : (a.x == b.x) = false ∨ ((a.x == b.x) = true ∧ (a.y == b.y) = false) := sp_neq h
set_option maxRecDepth 100000 in
set_option maxHeartbeats 6400000 in
theorem spec_JoinMoves_any (a b : Mv) (ha : isMv a = true) (hb : isMv b = true) (w : World) : Calls Tryz.prog 33 #[.agg #[.int .i64 a.f.x, .int .i64 a.f.y, .int .i64 a.t.x, .int .i64 a.t.y, .int .i64 a.c], .agg #[.int .i64 b.f.x, .int .i64 b.f.y, .int .i64 b.t.x, .int .i64 b.t.y, .int .i64 b.c]] w (RetMvB w (joinV a b) (joinOk a b)) := by
  obtain ⟨a1, a2, a3, a4⟩ := isMv_iff.1 ha
  obtain ⟨b1, b2, b3, b4⟩ := isMv_iff.1 hb
  have HA := Lib.hid ha
  have HB := Lib.hid hb
  have e0 : Hid (joinOk a b = (((isMv (joinM a b) && decide (a.t = b.f)) && isWh (joinM a b) a.c) && decide (rnd (joinM a b) a.c = a.t))) := Lib.hid rfl
  clear ha hb a1 a2 b1 b2
  go_enter Tryz.func33, Tryz.ntmps33
  go_wp2
  have hW0 : Below w.heap.size w ((((w.alloc (.cells #[.int .i64 a.f.x, .int .i64 a.f.y, .int .i64 a.t.x, .int .i64 a.t.y, .int .i64 a.c] 49)).alloc (.cells #[.int .i64 b.f.x, .int .i64 b.f.y, .int .i64 b.t.x, .int .i64 b.t.y, .int .i64 b.c] 49)).alloc (.cells #[.int .i64 0, .int .i64 0, .int .i64 0, .int .i64 0, .int .i64 0] 49)).alloc (.cells #[.int .i64 a.f.x, .int .i64 a.f.y, .int .i64 b.t.x, .int .i64 b.t.y, .int .i64 (a.c + b.c)] 49)) := by (repeat (first | exact Below.refl _ _ | assumption | (refine Below.alloc ?_ (by first | omega | (simp; done) | (simp; omega)) _) | (refine Below.setCell ?_ (by first | omega | (simp; done) | (simp; omega)) _) | (refine Below.drew ?_) | (refine Below.drewN ?_ _) | (refine Below.next (by assumption) ?_ (by first | omega | (simp; done) | (simp; omega)))))
  have r0 : ((((w.alloc (.cells #[.int .i64 a.f.x, .int .i64 a.f.y, .int .i64 a.t.x, .int .i64 a.t.y, .int .i64 a.c] 49)).alloc (.cells #[.int .i64 b.f.x, .int .i64 b.f.y, .int .i64 b.t.x, .int .i64 b.t.y, .int .i64 b.c] 49)).alloc (.cells #[.int .i64 0, .int .i64 0, .int .i64 0, .int .i64 0, .int .i64 0] 49)).alloc (.cells #[.int .i64 a.f.x, .int .i64 a.f.y, .int .i64 b.t.x, .int .i64 b.t.y, .int .i64 (a.c + b.c)] 49)).cell? ⟨w.heap.size + 1 + 1, 0, none⟩ = some (.int .i64 0) := by simp [go_sem]
  have r1 : ((((w.alloc (.cells #[.int .i64 a.f.x, .int .i64 a.f.y, .int .i64 a.t.x, .int .i64 a.t.y, .int .i64 a.c] 49)).alloc (.cells #[.int .i64 b.f.x, .int .i64 b.f.y, .int .i64 b.t.x, .int .i64 b.t.y, .int .i64 b.c] 49)).alloc (.cells #[.int .i64 0, .int .i64 0, .int .i64 0, .int .i64 0, .int .i64 0] 49)).alloc (.cells #[.int .i64 a.f.x, .int .i64 a.f.y, .int .i64 b.t.x, .int .i64 b.t.y, .int .i64 (a.c + b.c)] 49)).cell? ⟨w.heap.size + 1 + 1, 1, none⟩ = some (.int .i64 0) := by simp [go_sem]
  have r2 : ((((w.alloc (.cells #[.int .i64 a.f.x, .int .i64 a.f.y, .int .i64 a.t.x, .int .i64 a.t.y, .int .i64 a.c] 49)).alloc (.cells #[.int .i64 b.f.x, .int .i64 b.f.y, .int .i64 b.t.x, .int .i64 b.t.y, .int .i64 b.c] 49)).alloc (.cells #[.int .i64 0, .int .i64 0, .int .i64 0, .int .i64 0, .int .i64 0] 49)).alloc (.cells #[.int .i64 a.f.x, .int .i64 a.f.y, .int .i64 b.t.x, .int .i64 b.t.y, .int .i64 (a.c + b.c)] 49)).cell? ⟨w.heap.size + 1 + 1, 2, none⟩ = some (.int .i64 0) := by simp [go_sem]
  have r3 : ((((w.alloc (.cells #[.int .i64 a.f.x, .int .i64 a.f.y, .int .i64 a.t.x, .int .i64 a.t.y, .int .i64 a.c] 49)).alloc (.cells #[.int .i64 b.f.x, .int .i64 b.f.y, .int .i64 b.t.x, .int .i64 b.t.y, .int .i64 b.c] 49)).alloc (.cells #[.int .i64 0, .int .i64 0, .int .i64 0, .int .i64 0, .int .i64 0] 49)).alloc (.cells #[.int .i64 a.f.x, .int .i64 a.f.y, .int .i64 b.t.x, .int .i64 b.t.y, .int .i64 (a.c + b.c)] 49)).cell? ⟨w.heap.size + 1 + 1, 3, none⟩ = some (.int .i64 0) := by simp [go_sem]
  have r4 : ((((w.alloc (.cells #[.int .i64 a.f.x, .int .i64 a.f.y, .int .i64 a.t.x, .int .i64 a.t.y, .int .i64 a.c] 49)).alloc (.cells #[.int .i64 b.f.x, .int .i64 b.f.y, .int .i64 b.t.x, .int .i64 b.t.y, .int .i64 b.c] 49)).alloc (.cells #[.int .i64 0, .int .i64 0, .int .i64 0, .int .i64 0, .int .i64 0] 49)).alloc (.cells #[.int .i64 a.f.x, .int .i64 a.f.y, .int .i64 b.t.x, .int .i64 b.t.y, .int .i64 (a.c + b.c)] 49)).cell? ⟨w.heap.size + 1 + 1, 4, none⟩ = some (.int .i64 0) := by simp [go_sem]
  have z0 : ((((w.alloc (.cells #[.int .i64 a.f.x, .int .i64 a.f.y, .int .i64 a.t.x, .int .i64 a.t.y, .int .i64 a.c] 49)).alloc (.cells #[.int .i64 b.f.x, .int .i64 b.f.y, .int .i64 b.t.x, .int .i64 b.t.y, .int .i64 b.c] 49)).alloc (.cells #[.int .i64 0, .int .i64 0, .int .i64 0, .int .i64 0, .int .i64 0] 49)).alloc (.cells #[.int .i64 a.f.x, .int .i64 a.f.y, .int .i64 b.t.x, .int .i64 b.t.y, .int .i64 (a.c + b.c)] 49)).frozen? ⟨w.heap.size + 1 + 1, 0, none⟩ = false := by simp [go_sem]
  have z1 : ((((w.alloc (.cells #[.int .i64 a.f.x, .int .i64 a.f.y, .int .i64 a.t.x, .int .i64 a.t.y, .int .i64 a.c] 49)).alloc (.cells #[.int .i64 b.f.x, .int .i64 b.f.y, .int .i64 b.t.x, .int .i64 b.t.y, .int .i64 b.c] 49)).alloc (.cells #[.int .i64 0, .int .i64 0, .int .i64 0, .int .i64 0, .int .i64 0] 49)).alloc (.cells #[.int .i64 a.f.x, .int .i64 a.f.y, .int .i64 b.t.x, .int .i64 b.t.y, .int .i64 (a.c + b.c)] 49)).frozen? ⟨w.heap.size + 1 + 1, 1, none⟩ = false := by simp [go_sem]
  have z2 : ((((w.alloc (.cells #[.int .i64 a.f.x, .int .i64 a.f.y, .int .i64 a.t.x, .int .i64 a.t.y, .int .i64 a.c] 49)).alloc (.cells #[.int .i64 b.f.x, .int .i64 b.f.y, .int .i64 b.t.x, .int .i64 b.t.y, .int .i64 b.c] 49)).alloc (.cells #[.int .i64 0, .int .i64 0, .int .i64 0, .int .i64 0, .int .i64 0] 49)).alloc (.cells #[.int .i64 a.f.x, .int .i64 a.f.y, .int .i64 b.t.x, .int .i64 b.t.y, .int .i64 (a.c + b.c)] 49)).frozen? ⟨w.heap.size + 1 + 1, 2, none⟩ = false := by simp [go_sem]
  have z3 : ((((w.alloc (.cells #[.int .i64 a.f.x, .int .i64 a.f.y, .int .i64 a.t.x, .int .i64 a.t.y, .int .i64 a.c] 49)).alloc (.cells #[.int .i64 b.f.x, .int .i64 b.f.y, .int .i64 b.t.x, .int .i64 b.t.y, .int .i64 b.c] 49)).alloc (.cells #[.int .i64 0, .int .i64 0, .int .i64 0, .int .i64 0, .int .i64 0] 49)).alloc (.cells #[.int .i64 a.f.x, .int .i64 a.f.y, .int .i64 b.t.x, .int .i64 b.t.y, .int .i64 (a.c + b.c)] 49)).frozen? ⟨w.heap.size + 1 + 1, 3, none⟩ = false := by simp [go_sem]
  have z4 : ((((w.alloc (.cells #[.int .i64 a.f.x, .int .i64 a.f.y, .int .i64 a.t.x, .int .i64 a.t.y, .int .i64 a.c] 49)).alloc (.cells #[.int .i64 b.f.x, .int .i64 b.f.y, .int .i64 b.t.x, .int .i64 b.t.y, .int .i64 b.c] 49)).alloc (.cells #[.int .i64 0, .int .i64 0, .int .i64 0, .int .i64 0, .int .i64 0] 49)).alloc (.cells #[.int .i64 a.f.x, .int .i64 a.f.y, .int .i64 b.t.x, .int .i64 b.t.y, .int .i64 (a.c + b.c)] 49)).frozen? ⟨w.heap.size + 1 + 1, 4, none⟩ = false := by simp [go_sem]
  generalize hW : ((((w.alloc (.cells #[.int .i64 a.f.x, .int .i64 a.f.y, .int .i64 a.t.x, .int .i64 a.t.y, .int .i64 a.c] 49)).alloc (.cells #[.int .i64 b.f.x, .int .i64 b.f.y, .int .i64 b.t.x, .int .i64 b.t.y, .int .i64 b.c] 49)).alloc (.cells #[.int .i64 0, .int .i64 0, .int .i64 0, .int .i64 0, .int .i64 0] 49)).alloc (.cells #[.int .i64 a.f.x, .int .i64 a.f.y, .int .i64 b.t.x, .int .i64 b.t.y, .int .i64 (a.c + b.c)] 49)) = W1 at *
  have hW1 := Lib.hid hW.symm
  have hWs : w.heap.size + 1 + 1 + 1 < W1.heap.size := by rw [← hW]; simp
  clear hW
  have k0_0 : ∀ dd os, (grow (redrawn W1 dd) os).cell? ⟨w.heap.size, 0, none⟩ = some (.int .i64 a.f.x) := cell_regrown (by rw [hW1.out]; simp [go_sem])
  have k0_1 : ∀ dd os, (grow (redrawn W1 dd) os).cell? ⟨w.heap.size, 1, none⟩ = some (.int .i64 a.f.y) := cell_regrown (by rw [hW1.out]; simp [go_sem])
  have k0_2 : ∀ dd os, (grow (redrawn W1 dd) os).cell? ⟨w.heap.size, 2, none⟩ = some (.int .i64 a.t.x) := cell_regrown (by rw [hW1.out]; simp [go_sem])
  have k0_3 : ∀ dd os, (grow (redrawn W1 dd) os).cell? ⟨w.heap.size, 3, none⟩ = some (.int .i64 a.t.y) := cell_regrown (by rw [hW1.out]; simp [go_sem])
  have k0_4 : ∀ dd os, (grow (redrawn W1 dd) os).cell? ⟨w.heap.size, 4, none⟩ = some (.int .i64 a.c) := cell_regrown (by rw [hW1.out]; simp [go_sem])
  have k1_0 : ∀ dd os, (grow (redrawn W1 dd) os).cell? ⟨w.heap.size + 1, 0, none⟩ = some (.int .i64 b.f.x) := cell_regrown (by rw [hW1.out]; simp [go_sem])
  have k1_1 : ∀ dd os, (grow (redrawn W1 dd) os).cell? ⟨w.heap.size + 1, 1, none⟩ = some (.int .i64 b.f.y) := cell_regrown (by rw [hW1.out]; simp [go_sem])
  have k1_2 : ∀ dd os, (grow (redrawn W1 dd) os).cell? ⟨w.heap.size + 1, 2, none⟩ = some (.int .i64 b.t.x) := cell_regrown (by rw [hW1.out]; simp [go_sem])
  have k1_3 : ∀ dd os, (grow (redrawn W1 dd) os).cell? ⟨w.heap.size + 1, 3, none⟩ = some (.int .i64 b.t.y) := cell_regrown (by rw [hW1.out]; simp [go_sem])
  have k1_4 : ∀ dd os, (grow (redrawn W1 dd) os).cell? ⟨w.heap.size + 1, 4, none⟩ = some (.int .i64 b.c) := cell_regrown (by rw [hW1.out]; simp [go_sem])
  have k2_0 : ∀ dd os, (grow (redrawn W1 dd) os).cell? ⟨w.heap.size + 1 + 1 + 1, 0, none⟩ = some (.int .i64 a.f.x) := cell_regrown (by rw [hW1.out]; simp [go_sem])
  have k2_1 : ∀ dd os, (grow (redrawn W1 dd) os).cell? ⟨w.heap.size + 1 + 1 + 1, 1, none⟩ = some (.int .i64 a.f.y) := cell_regrown (by rw [hW1.out]; simp [go_sem])
  have k2_2 : ∀ dd os, (grow (redrawn W1 dd) os).cell? ⟨w.heap.size + 1 + 1 + 1, 2, none⟩ = some (.int .i64 b.t.x) := cell_regrown (by rw [hW1.out]; simp [go_sem])
  have k2_3 : ∀ dd os, (grow (redrawn W1 dd) os).cell? ⟨w.heap.size + 1 + 1 + 1, 3, none⟩ = some (.int .i64 b.t.y) := cell_regrown (by rw [hW1.out]; simp [go_sem])
  have k2_4 : ∀ dd os, (grow (redrawn W1 dd) os).cell? ⟨w.heap.size + 1 + 1 + 1, 4, none⟩ = some (.int .i64 (a.c + b.c)) := cell_regrown (by rw [hW1.out]; simp [go_sem])
  have cA : ∀ dd os, Calls Tryz.prog 62 #[.agg #[.int .i64 a.f.x, .int .i64 a.f.y, .int .i64 a.t.x, .int .i64 a.t.y, .int .i64 a.c]] (grow (redrawn W1 dd) os) fun e w'' => e = .returned (.bool true) ∧ ∃ p : Regrown, w'' = grow (redrawn W1 p.d) p.os := fun dd os => Calls.regrown_of ((mvGood_any a _).mono (by rintro e w' ⟨he, hb⟩; rw [HA.out] at he; exact ⟨he, hb⟩))
  have cB : ∀ dd os, Calls Tryz.prog 62 #[.agg #[.int .i64 b.f.x, .int .i64 b.f.y, .int .i64 b.t.x, .int .i64 b.t.y, .int .i64 b.c]] (grow (redrawn W1 dd) os) fun e w'' => e = .returned (.bool true) ∧ ∃ p : Regrown, w'' = grow (redrawn W1 p.d) p.os := fun dd os => Calls.regrown_of ((mvGood_any b _).mono (by rintro e w' ⟨he, hb⟩; rw [HB.out] at he; exact ⟨he, hb⟩))
  have C1 := Lib.hid (And.intro cA cB)
  clear cA cB
  have CW : Hid True := Lib.hid trivial
  have CR : Hid True := Lib.hid trivial
  cases h1 : isMv (joinM a b)
  · have H1 := Lib.hid h1
    clear h1
    have cM : ∀ dd os, Calls Tryz.prog 62 #[.agg #[.int .i64 a.f.x, .int .i64 a.f.y, .int .i64 b.t.x, .int .i64 b.t.y, .int .i64 (a.c + b.c)]] (grow (redrawn W1 dd) os) fun e w'' => e = .returned (.bool false) ∧ ∃ p : Regrown, w'' = grow (redrawn W1 p.d) p.os := fun dd os => Calls.regrown_of ((mvGood_any (joinM a b) _).mono (by rintro e w' ⟨he, hb⟩; rw [H1.out] at he; exact ⟨he, hb⟩))
    have CM := Lib.hid cM
    clear cM CW CR
    refine wp_region_quiet_below (by kernel_rfl) (by kernel_rfl) ?_
    repeat (first | go_big_quiet_step (first | with_reducible exact C1.out.1 _ _ | with_reducible exact C1.out.2 _ _ | with_reducible exact CM.out _ _) | quiet_step (first | with_reducible exact C1.out.1 _ _ | with_reducible exact C1.out.2 _ _ | with_reducible exact CM.out _ _))
    refine wpQuiet_nil ?_
    intro _ hw'
    obtain ⟨⟨dq, osq⟩, hw''⟩ := hw'
    subst hw''
    have hb2 := below_regrown W1 dq osq
    have hz2 := hb2.size
    have y0 := keep1 hb2 r0
    have y1 := keep1 hb2 r1
    have y2 := keep1 hb2 r2
    have y3 := keep1 hb2 r3
    have y4 := keep1 hb2 r4
    have u0 : (grow (redrawn W1 dq) osq).frozen? ⟨w.heap.size + 1 + 1, 0, none⟩ = false := (hb2.frozen (by (try dsimp only); omega)).trans z0
    have u1 : (grow (redrawn W1 dq) osq).frozen? ⟨w.heap.size + 1 + 1, 1, none⟩ = false := (hb2.frozen (by (try dsimp only); omega)).trans z1
    have u2 : (grow (redrawn W1 dq) osq).frozen? ⟨w.heap.size + 1 + 1, 2, none⟩ = false := (hb2.frozen (by (try dsimp only); omega)).trans z2
    have u3 : (grow (redrawn W1 dq) osq).frozen? ⟨w.heap.size + 1 + 1, 3, none⟩ = false := (hb2.frozen (by (try dsimp only); omega)).trans z3
    have u4 : (grow (redrawn W1 dq) osq).frozen? ⟨w.heap.size + 1 + 1, 4, none⟩ = false := (hb2.frozen (by (try dsimp only); omega)).trans z4
    have hb3 : Below w.heap.size w (grow (redrawn W1 dq) osq) := Below.next hb2 hW0 (by omega)
    have hz3 := hb3.size
    have v0 : w.heap.size < (grow (redrawn W1 dq) osq).heap.size := by omega
    clear hb2
    generalize hW2 : grow (redrawn W1 dq) osq = W2 at *
    clear hW2
    go_wp2
    exact bodyPost_ret (v := .tuple #[.agg #[.int .i64 0, .int .i64 0, .int .i64 0, .int .i64 0, .int .i64 0], .bool false]) (by simp [results, Tryz.results33, go_sem, y0, y1, y2, y3, y4]) rfl (RetMvB.no (by rw [e0.out]; simp [H1.out]) (by repeat (first | with_reducible assumption | (refine Below.setCell ?_ (by first | omega | (simp; done) | (simp; omega)) _))))
  have H1 := Lib.hid h1
  have cM : ∀ dd os, Calls Tryz.prog 62 #[.agg #[.int .i64 a.f.x, .int .i64 a.f.y, .int .i64 b.t.x, .int .i64 b.t.y, .int .i64 (a.c + b.c)]] (grow (redrawn W1 dd) os) fun e w'' => e = .returned (.bool true) ∧ ∃ p : Regrown, w'' = grow (redrawn W1 p.d) p.os := fun dd os => Calls.regrown_of ((mvGood_any (joinM a b) _).mono (by rintro e w' ⟨he, hb⟩; rw [H1.out] at he; exact ⟨he, hb⟩))
  have CM := Lib.hid cM
  clear cM CW CR
  by_cases h2 : a.t = b.f
  case neg =>
    have H2 := Lib.hid h2
    rcases ne_of h2 with e1 | ⟨e1, e2⟩
    all_goals
      clear h1 h2
      refine wp_region_quiet_below (by kernel_rfl) (by kernel_rfl) ?_
      repeat (first | go_big_quiet_step (first | with_reducible exact C1.out.1 _ _ | with_reducible exact C1.out.2 _ _ | with_reducible exact CM.out _ _) | quiet_step (first | with_reducible exact C1.out.1 _ _ | with_reducible exact C1.out.2 _ _ | with_reducible exact CM.out _ _))
      refine wpQuiet_nil ?_
      intro _ hw'
      obtain ⟨⟨dq, osq⟩, hw''⟩ := hw'
      subst hw''
      have hb2 := below_regrown W1 dq osq
      have hz2 := hb2.size
      have y0 := keep1 hb2 r0
      have y1 := keep1 hb2 r1
      have y2 := keep1 hb2 r2
      have y3 := keep1 hb2 r3
      have y4 := keep1 hb2 r4
      have u0 : (grow (redrawn W1 dq) osq).frozen? ⟨w.heap.size + 1 + 1, 0, none⟩ = false := (hb2.frozen (by (try dsimp only); omega)).trans z0
      have u1 : (grow (redrawn W1 dq) osq).frozen? ⟨w.heap.size + 1 + 1, 1, none⟩ = false := (hb2.frozen (by (try dsimp only); omega)).trans z1
      have u2 : (grow (redrawn W1 dq) osq).frozen? ⟨w.heap.size + 1 + 1, 2, none⟩ = false := (hb2.frozen (by (try dsimp only); omega)).trans z2
      have u3 : (grow (redrawn W1 dq) osq).frozen? ⟨w.heap.size + 1 + 1, 3, none⟩ = false := (hb2.frozen (by (try dsimp only); omega)).trans z3
      have u4 : (grow (redrawn W1 dq) osq).frozen? ⟨w.heap.size + 1 + 1, 4, none⟩ = false := (hb2.frozen (by (try dsimp only); omega)).trans z4
      have hb3 : Below w.heap.size w (grow (redrawn W1 dq) osq) := Below.next hb2 hW0 (by omega)
      have hz3 := hb3.size
      have v0 : w.heap.size < (grow (redrawn W1 dq) osq).heap.size := by omega
      clear hb2
      generalize hW2 : grow (redrawn W1 dq) osq = W2 at *
      clear hW2
      go_wp2
      exact bodyPost_ret (v := .tuple #[.agg #[.int .i64 0, .int .i64 0, .int .i64 0, .int .i64 0, .int .i64 0], .bool false]) (by simp [results, Tryz.results33, go_sem, y0, y1, y2, y3, y4]) rfl (RetMvB.no (by rw [e0.out]; simp [H2.out]) (by repeat (first | with_reducible assumption | (refine Below.setCell ?_ (by first | omega | (simp; done) | (simp; omega)) _))))
  have H2 := Lib.hid h2
  have q1 : (a.t.x == b.f.x) = true := by rw [h2]; simp
  have q2 : (a.t.y == b.f.y) = true := by rw [h2]; simp
  clear h2
  have hac : a.c ≤ (joinM a b).c := by show a.c ≤ a.c + b.c; omega
  cases h3 : isWh (joinM a b) a.c
  · have H3 := Lib.hid h3
    have cW : ∀ dd os, Calls Tryz.prog 63 #[.agg #[.int .i64 a.f.x, .int .i64 a.f.y, .int .i64 b.t.x, .int .i64 b.t.y, .int .i64 (a.c + b.c)], .int .i64 a.c] (grow (redrawn W1 dd) os) fun e w'' => e = .returned (.bool false) ∧ ∃ p : Regrown, w'' = grow (redrawn W1 p.d) p.os := fun dd os => Calls.regrown_of ((mvWhole_any (joinM a b) a.c H1.out (by omega) hac _).mono (by rintro e w' ⟨he, hb⟩; rw [H3.out] at he; exact ⟨he, hb⟩))
    have CW := Lib.hid cW
    clear cW h1 h3
    refine wp_region_quiet_below (by kernel_rfl) (by kernel_rfl) ?_
    repeat (first | go_big_quiet_step (first | with_reducible exact C1.out.1 _ _ | with_reducible exact C1.out.2 _ _ | with_reducible exact CM.out _ _ | with_reducible exact CW.out _ _) | quiet_step (first | with_reducible exact C1.out.1 _ _ | with_reducible exact C1.out.2 _ _ | with_reducible exact CM.out _ _ | with_reducible exact CW.out _ _))
    refine wpQuiet_nil ?_
    intro _ hw'
    obtain ⟨⟨dq, osq⟩, hw''⟩ := hw'
    subst hw''
    have hb2 := below_regrown W1 dq osq
    have hz2 := hb2.size
    have y0 := keep1 hb2 r0
    have y1 := keep1 hb2 r1
    have y2 := keep1 hb2 r2
    have y3 := keep1 hb2 r3
    have y4 := keep1 hb2 r4
    have u0 : (grow (redrawn W1 dq) osq).frozen? ⟨w.heap.size + 1 + 1, 0, none⟩ = false := (hb2.frozen (by (try dsimp only); omega)).trans z0
    have u1 : (grow (redrawn W1 dq) osq).frozen? ⟨w.heap.size + 1 + 1, 1, none⟩ = false := (hb2.frozen (by (try dsimp only); omega)).trans z1
    have u2 : (grow (redrawn W1 dq) osq).frozen? ⟨w.heap.size + 1 + 1, 2, none⟩ = false := (hb2.frozen (by (try dsimp only); omega)).trans z2
    have u3 : (grow (redrawn W1 dq) osq).frozen? ⟨w.heap.size + 1 + 1, 3, none⟩ = false := (hb2.frozen (by (try dsimp only); omega)).trans z3
    have u4 : (grow (redrawn W1 dq) osq).frozen? ⟨w.heap.size + 1 + 1, 4, none⟩ = false := (hb2.frozen (by (try dsimp only); omega)).trans z4
    have hb3 : Below w.heap.size w (grow (redrawn W1 dq) osq) := Below.next hb2 hW0 (by omega)
    have hz3 := hb3.size
    have v0 : w.heap.size < (grow (redrawn W1 dq) osq).heap.size := by omega
    clear hb2
    generalize hW2 : grow (redrawn W1 dq) osq = W2 at *
    clear hW2
    go_wp2
    exact bodyPost_ret (v := .tuple #[.agg #[.int .i64 0, .int .i64 0, .int .i64 0, .int .i64 0, .int .i64 0], .bool false]) (by simp [results, Tryz.results33, go_sem, y0, y1, y2, y3, y4]) rfl (RetMvB.no (by rw [e0.out]; simp [H3.out]) (by repeat (first | with_reducible assumption | (refine Below.setCell ?_ (by first | omega | (simp; done) | (simp; omega)) _))))
  have H3 := Lib.hid h3
  have cW : ∀ dd os, Calls Tryz.prog 63 #[.agg #[.int .i64 a.f.x, .int .i64 a.f.y, .int .i64 b.t.x, .int .i64 b.t.y, .int .i64 (a.c + b.c)], .int .i64 a.c] (grow (redrawn W1 dd) os) fun e w'' => e = .returned (.bool true) ∧ ∃ p : Regrown, w'' = grow (redrawn W1 p.d) p.os := fun dd os => Calls.regrown_of ((mvWhole_any (joinM a b) a.c H1.out (by omega) hac _).mono (by rintro e w' ⟨he, hb⟩; rw [H3.out] at he; exact ⟨he, hb⟩))
  have CW := Lib.hid cW
  have cR : ∀ dd os, Calls Tryz.prog 64 #[.agg #[.int .i64 a.f.x, .int .i64 a.f.y, .int .i64 b.t.x, .int .i64 b.t.y, .int .i64 (a.c + b.c)], .int .i64 a.c] (grow (redrawn W1 dd) os) fun e w'' => e = .returned (.agg #[.int .i64 (rnd (joinM a b) a.c).x, .int .i64 (rnd (joinM a b) a.c).y]) ∧ ∃ p : Regrown, w'' = grow (redrawn W1 p.d) p.os := fun dd os => Calls.regrown_of ((mvRound_any (joinM a b) a.c H1.out (by omega) hac _).mono (by rintro e w' ⟨he, hb⟩; exact ⟨he, hb⟩))
  have CR := Lib.hid cR
  clear cW cR h1 h3
  by_cases h4 : rnd (joinM a b) a.c = a.t
  case neg =>
    have H4 := Lib.hid h4
    rcases ne_of h4 with e1 | ⟨e1, e2⟩
    all_goals
      clear h4
      refine wp_region_quiet_below (by kernel_rfl) (by kernel_rfl) ?_
      repeat (first | go_big_quiet_step (first | with_reducible exact C1.out.1 _ _ | with_reducible exact C1.out.2 _ _ | with_reducible exact CM.out _ _ | with_reducible exact CW.out _ _ | with_reducible exact CR.out _ _) | quiet_step (first | with_reducible exact C1.out.1 _ _ | with_reducible exact C1.out.2 _ _ | with_reducible exact CM.out _ _ | with_reducible exact CW.out _ _ | with_reducible exact CR.out _ _))
      refine wpQuiet_nil ?_
      intro _ hw'
      obtain ⟨⟨dq, osq⟩, hw''⟩ := hw'
      subst hw''
      have hb2 := below_regrown W1 dq osq
      have hz2 := hb2.size
      have y0 := keep1 hb2 r0
      have y1 := keep1 hb2 r1
      have y2 := keep1 hb2 r2
      have y3 := keep1 hb2 r3
      have y4 := keep1 hb2 r4
      have u0 : (grow (redrawn W1 dq) osq).frozen? ⟨w.heap.size + 1 + 1, 0, none⟩ = false := (hb2.frozen (by (try dsimp only); omega)).trans z0
      have u1 : (grow (redrawn W1 dq) osq).frozen? ⟨w.heap.size + 1 + 1, 1, none⟩ = false := (hb2.frozen (by (try dsimp only); omega)).trans z1
      have u2 : (grow (redrawn W1 dq) osq).frozen? ⟨w.heap.size + 1 + 1, 2, none⟩ = false := (hb2.frozen (by (try dsimp only); omega)).trans z2
      have u3 : (grow (redrawn W1 dq) osq).frozen? ⟨w.heap.size + 1 + 1, 3, none⟩ = false := (hb2.frozen (by (try dsimp only); omega)).trans z3
      have u4 : (grow (redrawn W1 dq) osq).frozen? ⟨w.heap.size + 1 + 1, 4, none⟩ = false := (hb2.frozen (by (try dsimp only); omega)).trans z4
      have hb3 : Below w.heap.size w (grow (redrawn W1 dq) osq) := Below.next hb2 hW0 (by omega)
      have hz3 := hb3.size
      have v0 : w.heap.size < (grow (redrawn W1 dq) osq).heap.size := by omega
      clear hb2
      generalize hW2 : grow (redrawn W1 dq) osq = W2 at *
      clear hW2
      go_wp2
      exact bodyPost_ret (v := .tuple #[.agg #[.int .i64 0, .int .i64 0, .int .i64 0, .int .i64 0, .int .i64 0], .bool false]) (by simp [results, Tryz.results33, go_sem, y0, y1, y2, y3, y4]) rfl (RetMvB.no (by rw [e0.out]; simp [H4.out]) (by repeat (first | with_reducible assumption | (refine Below.setCell ?_ (by first | omega | (simp; done) | (simp; omega)) _))))
  have H4 := Lib.hid h4
  have q3 : ((rnd (joinM a b) a.c).x == a.t.x) = true := by rw [h4]; simp
  have q4 : ((rnd (joinM a b) a.c).y == a.t.y) = true := by rw [h4]; simp
  clear h4
  refine wp_region_quiet_below (by kernel_rfl) (by kernel_rfl) ?_
  repeat (first | go_big_quiet_step (first | with_reducible exact C1.out.1 _ _ | with_reducible exact C1.out.2 _ _ | with_reducible exact CM.out _ _ | with_reducible exact CW.out _ _ | with_reducible exact CR.out _ _) | quiet_step (first | with_reducible exact C1.out.1 _ _ | with_reducible exact C1.out.2 _ _ | with_reducible exact CM.out _ _ | with_reducible exact CW.out _ _ | with_reducible exact CR.out _ _))
  refine wpQuiet_nil ?_
  intro _ hw'
  obtain ⟨⟨dq, osq⟩, hw''⟩ := hw'
  subst hw''
  have hb2 := below_regrown W1 dq osq
  have hz2 := hb2.size
  have y0 := keep1 hb2 r0
  have y1 := keep1 hb2 r1
  have y2 := keep1 hb2 r2
  have y3 := keep1 hb2 r3
  have y4 := keep1 hb2 r4
  have u0 : (grow (redrawn W1 dq) osq).frozen? ⟨w.heap.size + 1 + 1, 0, none⟩ = false := (hb2.frozen (by (try dsimp only); omega)).trans z0
  have u1 : (grow (redrawn W1 dq) osq).frozen? ⟨w.heap.size + 1 + 1, 1, none⟩ = false := (hb2.frozen (by (try dsimp only); omega)).trans z1
  have u2 : (grow (redrawn W1 dq) osq).frozen? ⟨w.heap.size + 1 + 1, 2, none⟩ = false := (hb2.frozen (by (try dsimp only); omega)).trans z2
  have u3 : (grow (redrawn W1 dq) osq).frozen? ⟨w.heap.size + 1 + 1, 3, none⟩ = false := (hb2.frozen (by (try dsimp only); omega)).trans z3
  have u4 : (grow (redrawn W1 dq) osq).frozen? ⟨w.heap.size + 1 + 1, 4, none⟩ = false := (hb2.frozen (by (try dsimp only); omega)).trans z4
  have hb3 : Below w.heap.size w (grow (redrawn W1 dq) osq) := Below.next hb2 hW0 (by omega)
  have hz3 := hb3.size
  have v0 : w.heap.size < (grow (redrawn W1 dq) osq).heap.size := by omega
  have m0 := k2_0 dq osq
  have m1 := k2_1 dq osq
  have m2 := k2_2 dq osq
  have m3 := k2_3 dq osq
  have m4 := k2_4 dq osq
  clear hb2
  generalize hW2 : grow (redrawn W1 dq) osq = W2 at *
  clear hW2
  go_wp2
  exact bodyPost_ret (v := .tuple #[.agg #[.int .i64 a.f.x, .int .i64 a.f.y, .int .i64 b.t.x, .int .i64 b.t.y, .int .i64 (a.c + b.c)], .bool true]) (by simp [results, Tryz.results33, go_sem, y0, y1, y2, y3, y4]) rfl (RetMvB.yes (by rw [e0.out]; simp [H1.out, H2.out, H3.out, H4.out]) (by repeat (first | with_reducible assumption | (refine Below.setCell ?_ (by first | omega | (simp; done) | (simp; omega)) _))))

end Go.Proofs.YtdmgffcabjpihaaGreatDoor
