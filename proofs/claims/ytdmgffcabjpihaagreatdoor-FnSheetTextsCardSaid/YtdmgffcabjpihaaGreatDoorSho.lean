/-
  Contracts: where a move is after a count, rounded; SpotAfter, the program's and the reference's.
-/
import Derived.Test.YtdmgffcabjpihaaGreatDoorShn
import Derived.Deep.RegionHeld3
namespace Go.Proofs.YtdmgffcabjpihaaGreatDoor
open Go.RowKit Go.Sort

theorem plX_bd {m : Mv} {k : Int} (hm : isMv m = true) (h0 : 0 ≤ k) (h1 : k ≤ m.c) : 0 ≤ plX m k ∧ plX m k ≤ 81920 := by
  obtain ⟨a, b, c, d⟩ := isMv_iff.1 hm
  have a1 := (isSp_iff.1 a).1
  have b1 := (isSp_iff.1 b).1
  have := pl_bd (x := m.f.x) (y := m.t.x) (M := 1280) a1.1 a1.2 b1.1 b1.2 h0 h1
  unfold plX
  omega
theorem plY_bd {m : Mv} {k : Int} (hm : isMv m = true) (h0 : 0 ≤ k) (h1 : k ≤ m.c) : 0 ≤ plY m k ∧ plY m k ≤ 43008 := by
  obtain ⟨a, b, c, d⟩ := isMv_iff.1 hm
  have a1 := (isSp_iff.1 a).2
  have b1 := (isSp_iff.1 b).2
  have := pl_bd (x := m.f.y) (y := m.t.y) (M := 672) a1.1 a1.2 b1.1 b1.2 h0 h1
  unfold plY
  omega
theorem pl_wraps {x y c k M : Int} (hx0 : 0 ≤ x) (hx1 : x ≤ M) (hy0 : 0 ≤ y) (hy1 : y ≤ M) (hc0 : 1 ≤ c) (hc1 : c ≤ 64) (hk0 : 0 ≤ k) (hk1 : k ≤ c) (hM : M ≤ 1280) :
    IntKind.i64.wrap (x * c) = x * c ∧ IntKind.i64.wrap (y - x) = y - x ∧ IntKind.i64.wrap (k * (y - x)) = k * (y - x) ∧ IntKind.i64.wrap (x * c + k * (y - x)) = x * c + k * (y - x) := by
  have h1 := mul_bd (a := x) (A := M) (b := c) (B := 64) hx0 hx1 (by omega) hc1
  have h2 := mul_bd2 (a := y - x) (A := M) (b := k) (B := 64) (by omega) (by omega) hk0 (by omega)
  rw [Int.mul_comm (y - x) k] at h2
  exact ⟨IntWalk.i64_in _ (by omega), IntWalk.i64_in _ (by omega), IntWalk.i64_in _ (by omega), IntWalk.i64_in _ (by omega)⟩
theorem keepBo {w : World} {o : Obj} {p : Addr} {v : Value} (h : w.cell? p = some v) : (w.alloc o).cell? p = some v := keep1 ((Below.refl _ _).alloc (Nat.le_refl _) o) h
theorem ret_int2 {a b c d : Int} (h : a = b) (h' : c = d) : Ending.returned (.tuple #[.int .i64 a, .int .i64 c]) = .returned (.tuple #[.int .i64 b, .int .i64 d]) := by rw [h, h']

set_option maxHeartbeats 1600000 in
set_option maxRecDepth 100000 in
theorem mvAt_any (m : Mv) (k : Int) (hm : isMv m = true) (h0 : 0 ≤ k) (h1 : k ≤ m.c) (w : World) : Calls Tryz.prog 82 #[.agg #[.int .i64 m.f.x, .int .i64 m.f.y, .int .i64 m.t.x, .int .i64 m.t.y, .int .i64 m.c], .int .i64 k] w fun e w' => e = .returned (.tuple #[.int .i64 (plX m k), .int .i64 (plY m k)]) ∧ Below w.heap.size w w' := by
  obtain ⟨g1, g2, g3, g4⟩ := isMv_iff.1 hm
  have a1 := isSp_iff.1 g1
  have a2 := isSp_iff.1 g2
  obtain ⟨x1, x2, x3, x4⟩ := pl_wraps (x := m.f.x) (y := m.t.x) (M := 1280) a1.1.1 a1.1.2 a2.1.1 a2.1.2 g3 g4 h0 h1 (by omega)
  obtain ⟨y1, y2, y3, y4⟩ := pl_wraps (x := m.f.y) (y := m.t.y) (M := 672) a1.2.1 a1.2.2 a2.2.1 a2.2.2 g3 g4 h0 h1 (by omega)
  rw [Int.mul_comm k] at x3 x4 y3 y4
  have HX : Hid (plX m k = m.f.x * m.c + (m.t.x - m.f.x) * k) := Lib.hid (by unfold plX; rw [Int.mul_comm k])
  have HY : Hid (plY m k = m.f.y * m.c + (m.t.y - m.f.y) * k) := Lib.hid (by unfold plY; rw [Int.mul_comm k])
  clear hm g1 g2 a1 a2
  go_enter Tryz.func82, Tryz.ntmps82
  go_wp2
  go_quiet (fail)
  go_wp2
  go_ret2
  exact ⟨ret_int2 HX.out.symm HY.out.symm, by (repeat (first | exact Below.refl _ _ | assumption | (refine Below.alloc ?_ (by first | omega | (simp; done) | (simp; omega)) _) | (refine Below.setCell ?_ (by first | omega | (simp; done) | (simp; omega)) _) | (refine Below.drew ?_) | (refine Below.drewN ?_ _) | (refine Below.next (by assumption) ?_ (by first | omega | (simp; done) | (simp; omega)))))⟩

set_option maxHeartbeats 1600000 in
set_option maxRecDepth 100000 in
theorem placeAt_any (m : Mv) (k : Int) (hm : isMv m = true) (h0 : 0 ≤ k) (h1 : k ≤ m.c) (w : World) : Calls Tryz.prog 68 #[.agg #[.int .i64 m.f.x, .int .i64 m.f.y, .int .i64 m.t.x, .int .i64 m.t.y, .int .i64 m.c], .int .i64 k] w fun e w' => e = .returned (.tuple #[.int .i64 (plX m k), .int .i64 (plY m k)]) ∧ Below w.heap.size w w' := by
  obtain ⟨g1, g2, g3, g4⟩ := isMv_iff.1 hm
  have a1 := isSp_iff.1 g1
  have a2 := isSp_iff.1 g2
  obtain ⟨x1, x2, x3, x4⟩ := pl_wraps (x := m.f.x) (y := m.t.x) (M := 1280) a1.1.1 a1.1.2 a2.1.1 a2.1.2 g3 g4 h0 h1 (by omega)
  obtain ⟨y1, y2, y3, y4⟩ := pl_wraps (x := m.f.y) (y := m.t.y) (M := 672) a1.2.1 a1.2.2 a2.2.1 a2.2.2 g3 g4 h0 h1 (by omega)
  skip
  have HX : Hid (plX m k = m.f.x * m.c + k * (m.t.x - m.f.x)) := Lib.hid (by unfold plX; rfl)
  have HY : Hid (plY m k = m.f.y * m.c + k * (m.t.y - m.f.y)) := Lib.hid (by unfold plY; rfl)
  clear hm g1 g2 a1 a2
  go_enter Tryz.func68, Tryz.ntmps68
  go_wp2
  go_quiet (fail)
  go_wp2
  go_ret2
  exact ⟨ret_int2 HX.out.symm HY.out.symm, by (repeat (first | exact Below.refl _ _ | assumption | (refine Below.alloc ?_ (by first | omega | (simp; done) | (simp; omega)) _) | (refine Below.setCell ?_ (by first | omega | (simp; done) | (simp; omega)) _) | (refine Below.drew ?_) | (refine Below.drewN ?_ _) | (refine Below.next (by assumption) ?_ (by first | omega | (simp; done) | (simp; omega)))))⟩

theorem rdiv_wraps {a b : Int} (h0 : 0 ≤ a) (h1 : a ≤ 81920) (h2 : 1 ≤ b) (h3 : b ≤ 64) :
    IntKind.i64.wrap (2 * a) = 2 * a ∧ IntKind.i64.wrap (2 * a + b) = 2 * a + b ∧ IntKind.i64.wrap (2 * b) = 2 * b ∧ (2 * a + b).tdiv (2 * b) = rdiv a b ∧ IntKind.i64.wrap (rdiv a b) = rdiv a b := by
  have e : (2 * a + b).tdiv (2 * b) = rdiv a b := Int.tdiv_eq_ediv_of_nonneg (by omega)
  have h4 : 0 ≤ rdiv a b := Int.ediv_nonneg (by omega) (by omega)
  have h5 : rdiv a b ≤ 2 * a + b := Int.ediv_le_self _ (by omega)
  exact ⟨IntWalk.i64_in _ (by omega), IntWalk.i64_in _ (by omega), IntWalk.i64_in _ (by omega), e, IntWalk.i64_in _ (by omega)⟩
set_option maxRecDepth 100000 in
theorem floorDiv_any (a b : Int) (h0 : 0 ≤ a) (h1 : a ≤ 1000000) (h2 : 1 ≤ b) (h3 : b ≤ 1000) (w : World) : Calls Tryz.prog 87 #[.int .i64 a, .int .i64 b] w fun e w' => e = .returned (.int .i64 (a / b)) ∧ w = w' := by
  have h4 : 0 ≤ a % b := Int.emod_nonneg _ (by omega)
  have h5 : 0 ≤ a / b := Int.ediv_nonneg (by omega) (by omega)
  have h6 : a / b ≤ a := Int.ediv_le_self _ (by omega)
  go_enter Tryz.func87, Tryz.ntmps87
  go_wp2
  go_ret
  exact ⟨rfl, rfl⟩
set_option maxRecDepth 100000 in
theorem roundDiv_any (a b : Int) (h0 : 0 ≤ a) (h1 : a ≤ 81920) (h2 : 1 ≤ b) (h3 : b ≤ 64) (w : World) : Calls Tryz.prog 69 #[.int .i64 a, .int .i64 b] w fun e w' => e = .returned (.int .i64 (rdiv a b)) ∧ w = w' := by
  go_enter Tryz.func69, Tryz.ntmps69
  go_wp2_with (go_at_call 87; refine (floorDiv_any (2 * a + b) (2 * b) (by omega) (by omega) (by omega) (by omega) _).mono ?_; rintro e w' ⟨rfl, rfl⟩)
  go_ret
  exact ⟨rfl, rfl⟩

set_option maxRecDepth 100000 in
set_option maxHeartbeats 1600000 in
theorem mvRound_any (m : Mv) (k : Int) (hm : isMv m = true) (h0 : 0 ≤ k) (h1 : k ≤ m.c) (w : World) : Calls Tryz.prog 64 #[.agg #[.int .i64 m.f.x, .int .i64 m.f.y, .int .i64 m.t.x, .int .i64 m.t.y, .int .i64 m.c], .int .i64 k] w fun e w' => e = .returned (.agg #[.int .i64 (rnd m k).x, .int .i64 (rnd m k).y]) ∧ Below w.heap.size w w' := by
  obtain ⟨g1, g2, g3, g4⟩ := isMv_iff.1 hm
  have hx := plX_bd hm h0 h1
  have hy := plY_bd hm h0 h1
  obtain ⟨hx0, hx1⟩ := hx
  obtain ⟨hy0, hy1⟩ := hy
  have hcall := mvAt_any m k hm h0 h1
  obtain ⟨x1, x2, x3, x4, x5⟩ := rdiv_wraps (a := plX m k) (b := m.c) hx0 (by omega) g3 g4
  obtain ⟨y1, y2, y3, y4, y5⟩ := rdiv_wraps (a := plY m k) (b := m.c) hy0 (by omega) g3 g4
  have XS := Lib.hid (And.intro x1 (And.intro x2 (And.intro x3 (And.intro x4 x5))))
  have YS := Lib.hid (And.intro y1 (And.intro y2 (And.intro y4 y5)))
  have hne : ¬ 2 * m.c = 0 := by omega
  clear x1 x2 x3 x4 x5 y1 y2 y3 y4 y5 g1 g2 hm h0 h1
  generalize hX : plX m k = X at *
  generalize hY : plY m k = Y at *
  have HX := Lib.hid hX
  have HY := Lib.hid hY
  clear hX hY
  go_enter Tryz.func64, Tryz.ntmps64
  go_wp2_with fail
  refine (hcall _).mono ?_
  rintro e w1 ⟨rfl, hq⟩
  have f4 : w1.cell? ⟨w.heap.size, 4, none⟩ = some (.int .i64 m.c) := (hq.cell (by simp; omega)).trans (by simp [go_sem])
  have r0 : w1.cell? ⟨w.heap.size + 1, 0, none⟩ = some (.int .i64 0) := (hq.cell (by simp)).trans (by simp [go_sem])
  have r1 : w1.cell? ⟨w.heap.size + 1, 1, none⟩ = some (.int .i64 0) := (hq.cell (by simp)).trans (by simp [go_sem])
  have z0 : w1.frozen? ⟨w.heap.size + 1, 0, none⟩ = false := (hq.frozen (by simp)).trans (by simp [go_sem])
  have z1 : w1.frozen? ⟨w.heap.size + 1, 1, none⟩ = false := (hq.frozen (by simp)).trans (by simp [go_sem])
  have hb : Below w.heap.size w w1 := by (repeat (first | exact Below.refl _ _ | assumption | (refine Below.alloc ?_ (by first | omega | (simp; done) | (simp; omega)) _) | (refine Below.setCell ?_ (by first | omega | (simp; done) | (simp; omega)) _) | (refine Below.drew ?_) | (refine Below.drewN ?_ _) | (refine Below.next (by assumption) ?_ (by first | omega | (simp; done) | (simp; omega)))))
  obtain ⟨x1, x2, x3, x4, x5⟩ := XS.out
  obtain ⟨y1, y2, y4, y5⟩ := YS.out
  clear hq hcall
  go_wp2_with fail
  go_region_held3 (fun w' => w'.cell? ⟨w.heap.size, 4, none⟩ = some (.int .i64 m.c)) (first | assumption | (simp [go_sem, f4]; done)) (fail)
  go_wp2
  exact bodyPost_ret (v := .agg #[.int .i64 (rdiv X m.c), .int .i64 (rdiv Y m.c)]) (by simp [results, Tryz.results64, go_sem, r0, r1]) rfl ⟨by simp [rnd, HX.out, HY.out], by (repeat (first | exact Below.refl _ _ | assumption | (refine Below.alloc ?_ (by first | omega | (simp; done) | (simp; omega)) _) | (refine Below.setCell ?_ (by first | omega | (simp; done) | (simp; omega)) _) | (refine Below.drew ?_) | (refine Below.drewN ?_ _) | (refine Below.next (by assumption) ?_ (by first | omega | (simp; done) | (simp; omega)))))⟩

set_option maxRecDepth 100000 in
set_option maxHeartbeats 1600000 in
theorem roundedAt_any (m : Mv) (k : Int) (hm : isMv m = true) (h0 : 0 ≤ k) (h1 : k ≤ m.c) (w : World) : Calls Tryz.prog 43 #[.agg #[.int .i64 m.f.x, .int .i64 m.f.y, .int .i64 m.t.x, .int .i64 m.t.y, .int .i64 m.c], .int .i64 k] w fun e w' => e = .returned (.agg #[.int .i64 (rnd m k).x, .int .i64 (rnd m k).y]) ∧ Below w.heap.size w w' := by
  obtain ⟨g1, g2, g3, g4⟩ := isMv_iff.1 hm
  have hx := plX_bd hm h0 h1
  have hy := plY_bd hm h0 h1
  obtain ⟨hx0, hx1⟩ := hx
  obtain ⟨hy0, hy1⟩ := hy
  have hcall := placeAt_any m k hm h0 h1
  obtain ⟨x1, x2, x3, x4, x5⟩ := rdiv_wraps (a := plX m k) (b := m.c) hx0 (by omega) g3 g4
  obtain ⟨y1, y2, y3, y4, y5⟩ := rdiv_wraps (a := plY m k) (b := m.c) hy0 (by omega) g3 g4
  have XS := Lib.hid (And.intro x1 (And.intro x2 (And.intro x3 (And.intro x4 x5))))
  have YS := Lib.hid (And.intro y1 (And.intro y2 (And.intro y4 y5)))
  have hne : ¬ 2 * m.c = 0 := by omega
  clear x1 x2 x3 x4 x5 y1 y2 y3 y4 y5 g1 g2 hm h0 h1
  generalize hX : plX m k = X at *
  generalize hY : plY m k = Y at *
  have HX := Lib.hid hX
  have HY := Lib.hid hY
  clear hX hY
  go_enter Tryz.func43, Tryz.ntmps43
  go_wp2_with fail
  refine (hcall _).mono ?_
  rintro e w1 ⟨rfl, hq⟩
  have f4 : w1.cell? ⟨w.heap.size, 4, none⟩ = some (.int .i64 m.c) := (hq.cell (by simp; omega)).trans (by simp [go_sem])
  have r0 : w1.cell? ⟨w.heap.size + 1, 0, none⟩ = some (.int .i64 0) := (hq.cell (by simp)).trans (by simp [go_sem])
  have r1 : w1.cell? ⟨w.heap.size + 1, 1, none⟩ = some (.int .i64 0) := (hq.cell (by simp)).trans (by simp [go_sem])
  have z0 : w1.frozen? ⟨w.heap.size + 1, 0, none⟩ = false := (hq.frozen (by simp)).trans (by simp [go_sem])
  have z1 : w1.frozen? ⟨w.heap.size + 1, 1, none⟩ = false := (hq.frozen (by simp)).trans (by simp [go_sem])
  have hb : Below w.heap.size w w1 := by (repeat (first | exact Below.refl _ _ | assumption | (refine Below.alloc ?_ (by first | omega | (simp; done) | (simp; omega)) _) | (refine Below.setCell ?_ (by first | omega | (simp; done) | (simp; omega)) _) | (refine Below.drew ?_) | (refine Below.drewN ?_ _) | (refine Below.next (by assumption) ?_ (by first | omega | (simp; done) | (simp; omega)))))
  obtain ⟨x1, x2, x3, x4, x5⟩ := XS.out
  obtain ⟨y1, y2, y4, y5⟩ := YS.out
  clear hq hcall
  go_wp2_with fail
  go_region_held3 (fun w' => w'.cell? ⟨w.heap.size, 4, none⟩ = some (.int .i64 m.c)) (first | assumption | (simp [go_sem, f4]; done)) (first | (go_at_call 69; refine (roundDiv_any _ _ (by assumption) (by omega) (by assumption) (by assumption) _).mono ?_; rintro e w' ⟨rfl, rfl⟩))
  go_wp2
  exact bodyPost_ret (v := .agg #[.int .i64 (rdiv X m.c), .int .i64 (rdiv Y m.c)]) (by simp [results, Tryz.results43, go_sem, r0, r1]) rfl ⟨by simp [rnd, HX.out, HY.out], by (repeat (first | exact Below.refl _ _ | assumption | (refine Below.alloc ?_ (by first | omega | (simp; done) | (simp; omega)) _) | (refine Below.setCell ?_ (by first | omega | (simp; done) | (simp; omega)) _) | (refine Below.drew ?_) | (refine Below.drewN ?_ _) | (refine Below.next (by assumption) ?_ (by first | omega | (simp; done) | (simp; omega)))))⟩

/-- Where one is after so many counts, going by moves. -/
def saTo : List Mv → Int → Option Sp
  | [], _ => none
  | m :: l, n => if n ≤ m.c then some (rnd m n) else saTo l (n - m.c)
theorem saTo_step {l : List Mv} {k : Nat} {m : Mv} {n : Int} (h : l[k]? = some m) : saTo (l.drop k) n = if n ≤ m.c then some (rnd m n) else saTo (l.drop (k + 1)) (n - m.c) := by
  have hk := (List.getElem?_eq_some_iff.1 h).1
  rw [List.getElem?_eq_getElem hk] at h
  rw [List.drop_eq_getElem_cons hk, Option.some.inj h, saTo]
theorem saTo_end {l : List Mv} {k : Nat} {n : Int} (h : l.length ≤ k) : saTo (l.drop k) n = none := by rw [List.drop_of_length_le h]; rfl
def saR (p : Int) (s : Sp) (L : List Rw) (n : Int) : Option Sp := if shOk p s L && decide (0 ≤ n) then (if n = 0 then some s else saTo (mvs s L) n) else none
def saV (p : Int) (s : Sp) (L : List Rw) (n : Int) : Sp := (saR p s L n).getD ⟨0, 0⟩
def saOk (p : Int) (s : Sp) (L : List Rw) (n : Int) : Bool := (saR p s L n).isSome
theorem sa_pos {p : Int} {s : Sp} {L : List Rw} {n : Int} (h1 : shOk p s L = true) (h : 0 < n) : saR p s L n = saTo (mvs s L) n := by
  have e : n ≠ 0 := by omega
  have e2 : (0 : Int) ≤ n := by omega
  simp [saR, h1, e, e2]
theorem sa_none {p : Int} {s : Sp} {L : List Rw} {n : Int} (h : saR p s L n = none) : saV p s L n = ⟨0, 0⟩ ∧ saOk p s L n = false := by simp [saV, saOk, h]
theorem sa_some {p : Int} {s : Sp} {L : List Rw} {n : Int} {a : Sp} (h : saR p s L n = some a) : saV p s L n = a ∧ saOk p s L n = true := by simp [saV, saOk, h]
/-- With no counts to go one stands at the start, whatever the moves. -/
theorem saTo_zero {s : Sp} {L : List Rw} {r : Rw} (hL : L.all isRw = true) (h : L[0]? = some r) : saTo (mvs s L) 0 = some s := by
  have h1 := mvs_at (ats_zero s L) h
  have h2 := isRw_iff.1 (all_at hL h)
  have h3 := saTo_step (n := 0) h1
  rw [List.drop_zero] at h3
  rw [h3, if_pos (by show (0 : Int) ≤ r.c; omega), rnd_zero (by show (1 : Int) ≤ r.c; omega)]


set_option maxRecDepth 100000 in
set_option maxHeartbeats 3200000 in
theorem impl_SpotAfter_any (p : Int) (s : Sp) (A : Option Addr) (c : Nat) (L : List Rw) (n : Int) (w : World) (hm : Mem w A (rows L)) (hl : L.length ≤ 1048576) (hn : okInt n) : Calls Tryz.prog 19 #[.agg #[.int .i64 p, .int .i64 s.x, .int .i64 s.y, .slice A L.length c], .int .i64 n] w (RetSp w (saV p s L n) (saOk p s L n)) := by
  obtain ⟨hn1, hn2⟩ := hn
  have hcall := IsSheet_any p s A c L ((w.alloc (.cells #[.int .i64 p, .int .i64 s.x, .int .i64 s.y, .slice A L.length c] 28)).alloc (.cells #[.int .i64 0, .int .i64 0] 25)) (hm.below (by (repeat (first | exact Below.refl _ _ | assumption | (refine Below.alloc ?_ (by first | omega | (simp; done) | (simp; omega)) _) | (refine Below.setCell ?_ (by first | omega | (simp; done) | (simp; omega)) _) | (refine Below.drew ?_) | (refine Below.drewN ?_ _) | (refine Below.next (by assumption) ?_ (by first | omega | (simp; done) | (simp; omega))))))) hl
  cases h1 : shOk p s L
  all_goals have H1 := Lib.hid h1
  case false =>
    have H0 := Lib.hid (sa_none (p := p) (s := s) (L := L) (n := n) (by simp [saR, h1]))
    clear h1
    go_enter Tryz.func19, Tryz.ntmps19
    go_wp2_with fail
    refine hcall.mono ?_
    rintro e w1 ⟨he, hq⟩
    rw [H1.out] at he
    subst he
    have r0 : w1.cell? ⟨w.heap.size + 1, 0, none⟩ = some (.int .i64 0) := (hq.cell (by simp)).trans (by simp [go_sem])
    have r1 : w1.cell? ⟨w.heap.size + 1, 1, none⟩ = some (.int .i64 0) := (hq.cell (by simp)).trans (by simp [go_sem])
    have f0 : w1.frozen? ⟨w.heap.size + 1, 0, none⟩ = false := (hq.frozen (by simp)).trans (by simp [go_sem])
    have f1 : w1.frozen? ⟨w.heap.size + 1, 1, none⟩ = false := (hq.frozen (by simp)).trans (by simp [go_sem])
    have hb : Below w.heap.size w w1 := by (repeat (first | exact Below.refl _ _ | assumption | (refine Below.alloc ?_ (by first | omega | (simp; done) | (simp; omega)) _) | (refine Below.setCell ?_ (by first | omega | (simp; done) | (simp; omega)) _) | (refine Below.drew ?_) | (refine Below.drewN ?_ _) | (refine Below.next (by assumption) ?_ (by first | omega | (simp; done) | (simp; omega)))))
    have hsz := hb.size
    clear hq hcall
    go_wp2
    exact bodyPost_ret (v := .tuple #[.agg #[.int .i64 0, .int .i64 0], .bool false]) (by simp [results, Tryz.results19, go_sem, r0, r1]) rfl (RetSp.mk (u := ⟨0, 0⟩) H0.out.1 H0.out.2 (by (repeat (first | exact Below.refl _ _ | assumption | (refine Below.alloc ?_ (by first | omega | (simp; done) | (simp; omega)) _) | (refine Below.setCell ?_ (by first | omega | (simp; done) | (simp; omega)) _) | (refine Below.drew ?_) | (refine Below.drewN ?_ _) | (refine Below.next (by assumption) ?_ (by first | omega | (simp; done) | (simp; omega)))))))
  by_cases h2 : n < 0
  case pos =>
    have H0 := Lib.hid (sa_none (p := p) (s := s) (L := L) (n := n) (by simp [saR, h1]; omega))
    clear h1
    go_enter Tryz.func19, Tryz.ntmps19
    go_wp2_with fail
    refine hcall.mono ?_
    rintro e w1 ⟨he, hq⟩
    rw [H1.out] at he
    subst he
    have r0 : w1.cell? ⟨w.heap.size + 1, 0, none⟩ = some (.int .i64 0) := (hq.cell (by simp)).trans (by simp [go_sem])
    have r1 : w1.cell? ⟨w.heap.size + 1, 1, none⟩ = some (.int .i64 0) := (hq.cell (by simp)).trans (by simp [go_sem])
    have f0 : w1.frozen? ⟨w.heap.size + 1, 0, none⟩ = false := (hq.frozen (by simp)).trans (by simp [go_sem])
    have f1 : w1.frozen? ⟨w.heap.size + 1, 1, none⟩ = false := (hq.frozen (by simp)).trans (by simp [go_sem])
    have hb : Below w.heap.size w w1 := by (repeat (first | exact Below.refl _ _ | assumption | (refine Below.alloc ?_ (by first | omega | (simp; done) | (simp; omega)) _) | (refine Below.setCell ?_ (by first | omega | (simp; done) | (simp; omega)) _) | (refine Below.drew ?_) | (refine Below.drewN ?_ _) | (refine Below.next (by assumption) ?_ (by first | omega | (simp; done) | (simp; omega)))))
    have hsz := hb.size
    clear hq hcall
    go_wp2
    exact bodyPost_ret (v := .tuple #[.agg #[.int .i64 0, .int .i64 0], .bool false]) (by simp [results, Tryz.results19, go_sem, r0, r1]) rfl (RetSp.mk (u := ⟨0, 0⟩) H0.out.1 H0.out.2 (by (repeat (first | exact Below.refl _ _ | assumption | (refine Below.alloc ?_ (by first | omega | (simp; done) | (simp; omega)) _) | (refine Below.setCell ?_ (by first | omega | (simp; done) | (simp; omega)) _) | (refine Below.drew ?_) | (refine Below.drewN ?_ _) | (refine Below.next (by assumption) ?_ (by first | omega | (simp; done) | (simp; omega)))))))
  obtain ⟨g1, g2, g3, g4⟩ := shOk_iff.1 h1
  have HS := Lib.hid g2
  have HR := Lib.hid g4
  have HM := Lib.hid (mvs_len s L)
  have HN : Hid (0 < n → saR p s L n = saTo (mvs s L) n) := Lib.hid (sa_pos h1)
  have HZ0 : Hid (n = 0 → saR p s L n = some s) := Lib.hid (fun h => by simp [saR, h1, h])
  have HZ1 : Hid (0 < L.length → n = 0 → saTo (mvs s L) n = some s) := Lib.hid (fun h hn0 => by
    obtain ⟨r, hr⟩ := some_of_lt h
    rw [hn0]
    exact saTo_zero g4 hr)
  clear h1 g1 g2 g4
  go_enter Tryz.func19, Tryz.ntmps19
  go_wp2_with fail
  refine hcall.mono ?_
  rintro e w1 ⟨he, hq⟩
  rw [H1.out] at he
  subst he
  have hX1 : Below (w.heap.size + 2) ((w.alloc (.cells #[.int .i64 p, .int .i64 s.x, .int .i64 s.y, .slice A L.length c] 28)).alloc (.cells #[.int .i64 0, .int .i64 0] 25)) w1 := hq.mono (by simp)
  have hb1 : Below w.heap.size w w1 := by (repeat (first | exact Below.refl _ _ | assumption | (refine Below.alloc ?_ (by first | omega | (simp; done) | (simp; omega)) _) | (refine Below.setCell ?_ (by first | omega | (simp; done) | (simp; omega)) _) | (refine Below.drew ?_) | (refine Below.drewN ?_ _) | (refine Below.next (by assumption) ?_ (by first | omega | (simp; done) | (simp; omega)))))
  have hz1 := hq.size
  simp at hz1
  have q0 : w1.cell? ⟨w.heap.size, 0, none⟩ = some (.int .i64 p) := (hX1.cell (by simp)).trans (by simp [go_sem])
  have q1 : w1.cell? ⟨w.heap.size, 1, none⟩ = some (.int .i64 s.x) := (hX1.cell (by simp)).trans (by simp [go_sem])
  have q2 : w1.cell? ⟨w.heap.size, 2, none⟩ = some (.int .i64 s.y) := (hX1.cell (by simp)).trans (by simp [go_sem])
  have q3 : w1.cell? ⟨w.heap.size, 3, none⟩ = some (.slice A L.length c) := (hX1.cell (by simp)).trans (by simp [go_sem])
  clear hq hcall
  go_wp2_with fail
  refine (sheetMoves_any p s _ _ L _ (hm.below (by (repeat (first | exact Below.refl _ _ | assumption | (refine Below.alloc ?_ (by first | omega | (simp; done) | (simp; omega)) _) | (refine Below.setCell ?_ (by first | omega | (simp; done) | (simp; omega)) _) | (refine Below.drew ?_) | (refine Below.drewN ?_ _) | (refine Below.next (by assumption) ?_ (by first | omega | (simp; done) | (simp; omega))))))) hl).mono ?_
  rintro e w2 ⟨A1, c1, rfl, ho, hq2⟩
  have hX2 : Below (w.heap.size + 2) ((w.alloc (.cells #[.int .i64 p, .int .i64 s.x, .int .i64 s.y, .slice A L.length c] 28)).alloc (.cells #[.int .i64 0, .int .i64 0] 25)) w2 := hX1.trans (hq2.mono (by omega))
  have hb2 : Below w.heap.size w w2 := by (repeat (first | exact Below.refl _ _ | assumption | (refine Below.alloc ?_ (by first | omega | (simp; done) | (simp; omega)) _) | (refine Below.setCell ?_ (by first | omega | (simp; done) | (simp; omega)) _) | (refine Below.drew ?_) | (refine Below.drewN ?_ _) | (refine Below.next (by assumption) ?_ (by first | omega | (simp; done) | (simp; omega)))))
  rw [HM.out] at ho ⊢
  have HO := Lib.hid ho
  clear hq2 ho q0 q1 q2 q3 hX1
  go_wp2_with fail
  go_loopw [1, 7, 19] (fun cnt _ i wr => ∃ (k : Nat) (x : Int), k ≤ L.length ∧ i = .int .i64 k ∧ cnt = .int .i64 x ∧ 0 ≤ x ∧ x ≤ n ∧ (0 < k → 0 < x) ∧ (k = 0 → x = n) ∧ Below w2.heap.size w2 wr ∧ Hid (saTo (mvs s L) n = saTo ((mvs s L).drop k) x)) (fun _ _ i _ => L.length - (intOf i).toNat)
  case atStart => exact ⟨0, n, by omega, rfl, rfl, by omega, by omega, fun h => absurd h (by omega), fun _ => rfl, Below.refl _ _, Lib.hid (by rw [List.drop_zero])⟩
  case round =>
    obtain ⟨k, x, hk, rfl, rfl, hx0, hx1, hp1, hp2, hb, H⟩ := hrel
    have hX3 : Below (w.heap.size + 2) ((w.alloc (.cells #[.int .i64 p, .int .i64 s.x, .int .i64 s.y, .slice A L.length c] 28)).alloc (.cells #[.int .i64 0, .int .i64 0] 25)) wr := hX2.trans (hb.mono (by have := hX2.size; simp at this; omega))
    have hb3 := Below.next hb hb2 hb2.size
    have hsz := hX3.size
    simp at hsz
    have gz1 : w.heap.size < wr.heap.size := by omega
    have gz2 : w.heap.size + 1 < wr.heap.size := by omega
    have hsz2 := hb.size
    have q1 : wr.cell? ⟨w.heap.size, 1, none⟩ = some (.int .i64 s.x) := (hX3.cell (by simp)).trans (by simp [go_sem])
    have q2 : wr.cell? ⟨w.heap.size, 2, none⟩ = some (.int .i64 s.y) := (hX3.cell (by simp)).trans (by simp [go_sem])
    have r0 : wr.cell? ⟨w.heap.size + 1, 0, none⟩ = some (.int .i64 0) := (hX3.cell (by simp)).trans (by simp [go_sem])
    have r1 : wr.cell? ⟨w.heap.size + 1, 1, none⟩ = some (.int .i64 0) := (hX3.cell (by simp)).trans (by simp [go_sem])
    have f0 : wr.frozen? ⟨w.heap.size + 1, 0, none⟩ = false := (hX3.frozen (by simp)).trans (by simp [go_sem])
    have f1 : wr.frozen? ⟨w.heap.size + 1, 1, none⟩ = false := (hX3.frozen (by simp)).trans (by simp [go_sem])
    by_cases hlt : k < L.length
    · obtain ⟨u, hu⟩ := some_of_lt (L := mvs s L) (k := k) (by rw [HM.out]; exact hlt)
      obtain ⟨b, off, rfl, e1, e2, e3, e4, e5⟩ := ((Mem.of_own HO.out).below hb).move hu
      have hug := mvs_ok HS.out HR.out hu
      have hcs := (isMv_iff.1 hug).2.2
      have HST := Lib.hid (H.out.trans (saTo_step hu))
      have HUG := Lib.hid hug
      clear hu hug
      by_cases hcmp : x ≤ u.c
      · have HRES : Hid (saV p s L n = rnd u x ∧ saOk p s L n = true) := Lib.hid (sa_some (by
          have h5 := HST.out
          rw [if_pos hcmp] at h5
          rcases Int.lt_or_eq_of_le (show 0 ≤ n by omega) with h6 | h6
          · exact (HN.out h6).trans h5
          · exact (HZ0.out h6.symm).trans ((HZ1.out (by omega) h6.symm).symm.trans h5)))
        go_wp2_with fail
        refine (roundedAt_any u x HUG.out (by omega) hcmp _).mono ?_
        rintro e w4 ⟨rfl, hq4⟩
        have y0 := keep1 hq4 (keepBo r0)
        have y1 := keep1 hq4 (keepBo r1)
        have t0 : w4.frozen? ⟨w.heap.size + 1, 0, none⟩ = false := (hq4.frozen (by simp; omega)).trans ((World.frozen?_alloc_past _ _ _ gz2).trans f0)
        have t1 : w4.frozen? ⟨w.heap.size + 1, 1, none⟩ = false := (hq4.frozen (by simp; omega)).trans ((World.frozen?_alloc_past _ _ _ gz2).trans f1)
        have hb4 : Below w.heap.size w w4 := by (repeat (first | exact Below.refl _ _ | assumption | (refine Below.alloc ?_ (by first | omega | (simp; done) | (simp; omega)) _) | (refine Below.setCell ?_ (by first | omega | (simp; done) | (simp; omega)) _) | (refine Below.drew ?_) | (refine Below.drewN ?_ _) | (refine Below.next (by assumption) ?_ (by first | omega | (simp; done) | (simp; omega)))))
        have hz4 := hb4.size
        clear hq4
        go_wp2_with fail
        exact bodyPost_ret (v := .tuple #[.agg #[.int .i64 (rnd u x).x, .int .i64 (rnd u x).y], .bool true]) (by simp [results, Tryz.results19, go_sem, y0, y1]) rfl (RetSp.mk HRES.out.1 HRES.out.2 (by (repeat (first | exact Below.refl _ _ | assumption | (refine Below.alloc ?_ (by first | omega | (simp; done) | (simp; omega)) _) | (refine Below.setCell ?_ (by first | omega | (simp; done) | (simp; omega)) _) | (refine Below.drew ?_) | (refine Below.drewN ?_ _) | (refine Below.next (by assumption) ?_ (by first | omega | (simp; done) | (simp; omega)))))))
      · go_wp2
        go_roundw
        case rel => exact ⟨k + 1, x - u.c, by omega, by go_num, rfl, by omega, by omega, fun _ => by omega, fun h => absurd h (by omega), by (repeat (first | exact Below.refl _ _ | assumption | (refine Below.alloc ?_ (by first | omega | (simp; done) | (simp; omega)) _) | (refine Below.setCell ?_ (by first | omega | (simp; done) | (simp; omega)) _) | (refine Below.drew ?_) | (refine Below.drewN ?_ _) | (refine Below.next (by assumption) ?_ (by first | omega | (simp; done) | (simp; omega))))), Lib.hid (by rw [HST.out, if_neg hcmp])⟩
        case measure => simp [intOf]; omega
    · have HE := Lib.hid (H.out.trans (saTo_end (by rw [HM.out]; omega)))
      by_cases hx : 0 < x
      · have HR0 := Lib.hid (sa_none ((HN.out (by omega)).trans HE.out))
        clear hp1 hp2
        go_wp2
        exact bodyPost_ret (v := .tuple #[.agg #[.int .i64 0, .int .i64 0], .bool false]) (by simp [results, Tryz.results19, go_sem, r0, r1]) rfl (RetSp.mk (u := ⟨0, 0⟩) HR0.out.1 HR0.out.2 (by (repeat (first | exact Below.refl _ _ | assumption | (refine Below.alloc ?_ (by first | omega | (simp; done) | (simp; omega)) _) | (refine Below.setCell ?_ (by first | omega | (simp; done) | (simp; omega)) _) | (refine Below.drew ?_) | (refine Below.drewN ?_ _) | (refine Below.next (by assumption) ?_ (by first | omega | (simp; done) | (simp; omega)))))))
      · have hk0 : k = 0 := by
          rcases Nat.eq_zero_or_pos k with h | h
          · exact h
          · exact absurd (hp1 h) hx
        have HR0 := Lib.hid (sa_some (HZ0.out (by have := hp2 hk0; omega)))
        clear hp1 hp2 hk0
        go_wp2
        exact bodyPost_ret (v := .tuple #[.agg #[.int .i64 s.x, .int .i64 s.y], .bool true]) (by simp [results, Tryz.results19, go_sem, r0, r1]) rfl (RetSp.mk HR0.out.1 HR0.out.2 (by (repeat (first | exact Below.refl _ _ | assumption | (refine Below.alloc ?_ (by first | omega | (simp; done) | (simp; omega)) _) | (refine Below.setCell ?_ (by first | omega | (simp; done) | (simp; omega)) _) | (refine Below.drew ?_) | (refine Below.drewN ?_ _) | (refine Below.next (by assumption) ?_ (by first | omega | (simp; done) | (simp; omega)))))))

end Go.Proofs.YtdmgffcabjpihaaGreatDoor
