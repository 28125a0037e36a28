/-
  Contracts: PlaceDelayed, LeastDelayed, LeastApart.
-/
import Derived.Test.YthehcjfljjfnmaaGreatFdr
import Derived.Test.YthehcjfljjfnmaaGreatDek
namespace Go.Proofs.YthehcjfljjfnmaaGreat
open Go.RowKit Go.Sort Go.Lib

def isMw (m : Mv) : Bool := (isSp m.f && isSp m.t) && inR m.c 1 64
def shMv (m : Mv) : Bool := isMw m && decide (m.c ≤ 16)
theorem isMw_iff {m : Mv} : isMw m = true ↔ isSp m.f = true ∧ isSp m.t = true ∧ 1 ≤ m.c ∧ m.c ≤ 64 := by
  simp only [isMw, Bool.and_eq_true, inR_iff, and_assoc]
theorem shMv_ok {m : Mv} (h : shMv m = true) : mvOk m := by
  rw [shMv, Bool.and_eq_true, isMw_iff, decide_eq_true_eq] at h
  exact ⟨h.1.1, h.1.2.1, h.1.2.2.1, h.2⟩
def pdOk (m : Mv) (d c : Int) : Bool := (shMv m && inR d 0 4) && inR c 0 100
def pdX (m : Mv) (d c : Int) : Int := if pdOk m d c then plX m (clk m.c d c) else 0
def pdY (m : Mv) (d c : Int) : Int := if pdOk m d c then plY m (clk m.c d c) else 0
def tgOk (a b : Mv) : Bool := (isMw a && isMw b) && decide (a.c = b.c)
def ldOk (a b : Mv) (p q : Int) : Bool := ((shMv a && tgOk a b) && inR p 0 4) && inR q 0 4
def ldA (a b : Mv) (p q : Int) : Int := if ldOk a b p q then ldN a b p q else 0
def ldB (a b : Mv) (p q : Int) : Int := if ldOk a b p q then ldD a b p q else 0
def laA (a b : Mv) : Int := if tgOk a b then lwN (laF a b).1 (laF a b).2 else 0
def laB (a b : Mv) : Int := if tgOk a b then lwD (laF a b).1 (laF a b).2 else 0
theorem ret_xyb {a b c d : Int} {x y : Bool} (h1 : a = b) (h2 : c = d) (h3 : x = y) : Ending.returned (.tuple #[.int .i64 a, .int .i64 c, .bool x]) = .returned (.tuple #[.int .i64 b, .int .i64 d, .bool y]) := by rw [h1, h2, h3]
theorem beq_dec (a b : Int) : (a == b) = decide (a = b) := by by_cases h : a = b <;> simp [h]
theorem ret_b2 {a b : Bool} (h : a = b) : Ending.returned (.bool a) = .returned (.bool b) := by rw [h]

set_option maxRecDepth 100000 in
theorem mvGood_mw (m : Mv) (w : World) : Calls Tryz.prog 59 #[.agg #[.int .i64 m.f.x, .int .i64 m.f.y, .int .i64 m.t.x, .int .i64 m.t.y, .int .i64 m.c]] w fun e w' => e = .returned (.bool (isMw m)) ∧ Below w.heap.size w w' := by
  have e0 : Hid (isMw m = ((isSp m.f && isSp m.t) && inR m.c 1 64)) := Lib.hid rfl
  cases h1 : isSp m.f
  · go_enter Tryz.func59, Tryz.ntmps59
    go_wp2_with (first | (go_at_call 83; refine (stGood_any _ _).mono ?_; rintro e w' ⟨rfl, o, rfl⟩) | (go_at_call 45; refine (l1In_any _ _ _ _).mono ?_; rintro e w' ⟨rfl, rfl⟩))
    go_ret
    exact ⟨ret_b2 (by rw [e0.out, h1]; rfl), by (repeat (first | exact Below.refl _ _ | assumption | (refine Below.alloc ?_ (by first | omega | (simp; done) | (simp; omega)) _) | (refine Below.setCell ?_ (by first | omega | (simp; done) | (simp; omega)) _) | (refine Below.drew ?_) | (refine Below.drewN ?_ _) | (refine Below.next (by assumption) ?_ (by first | omega | (simp; done) | (simp; omega)))))⟩
  cases h2 : isSp m.t
  · go_enter Tryz.func59, Tryz.ntmps59
    go_wp2_with (first | (go_at_call 83; refine (stGood_any _ _).mono ?_; rintro e w' ⟨rfl, o, rfl⟩) | (go_at_call 45; refine (l1In_any _ _ _ _).mono ?_; rintro e w' ⟨rfl, rfl⟩))
    go_ret
    exact ⟨ret_b2 (by rw [e0.out, h1, h2]; rfl), by (repeat (first | exact Below.refl _ _ | assumption | (refine Below.alloc ?_ (by first | omega | (simp; done) | (simp; omega)) _) | (refine Below.setCell ?_ (by first | omega | (simp; done) | (simp; omega)) _) | (refine Below.drew ?_) | (refine Below.drewN ?_ _) | (refine Below.next (by assumption) ?_ (by first | omega | (simp; done) | (simp; omega)))))⟩
  · go_enter Tryz.func59, Tryz.ntmps59
    go_wp2_with (first | (go_at_call 83; refine (stGood_any _ _).mono ?_; rintro e w' ⟨rfl, o, rfl⟩) | (go_at_call 45; refine (l1In_any _ _ _ _).mono ?_; rintro e w' ⟨rfl, rfl⟩))
    go_ret
    exact ⟨ret_b2 (by rw [e0.out, h1, h2]; rfl), by (repeat (first | exact Below.refl _ _ | assumption | (refine Below.alloc ?_ (by first | omega | (simp; done) | (simp; omega)) _) | (refine Below.setCell ?_ (by first | omega | (simp; done) | (simp; omega)) _) | (refine Below.drew ?_) | (refine Below.drewN ?_ _) | (refine Below.next (by assumption) ?_ (by first | omega | (simp; done) | (simp; omega)))))⟩

set_option maxRecDepth 100000 in
theorem IsMove_mw (m : Mv) (w : World) : Calls Tryz.prog 55 #[.agg #[.int .i64 m.f.x, .int .i64 m.f.y, .int .i64 m.t.x, .int .i64 m.t.y, .int .i64 m.c]] w fun e w' => e = .returned (.bool (isMw m)) ∧ Below w.heap.size w w' := by
  have e0 : Hid (isMw m = ((isSp m.f && isSp m.t) && inR m.c 1 64)) := Lib.hid rfl
  cases h1 : isSp m.f
  · go_enter Tryz.func55, Tryz.ntmps55
    go_wp2_with (first | (go_at_call 80; refine (isSpot_any _ _).mono ?_; rintro e w' ⟨rfl, o, rfl⟩) | (go_at_call 43; refine (within_any _ _ _ _).mono ?_; rintro e w' ⟨rfl, rfl⟩))
    go_ret
    exact ⟨ret_b2 (by rw [e0.out, h1]; rfl), by (repeat (first | exact Below.refl _ _ | assumption | (refine Below.alloc ?_ (by first | omega | (simp; done) | (simp; omega)) _) | (refine Below.setCell ?_ (by first | omega | (simp; done) | (simp; omega)) _) | (refine Below.drew ?_) | (refine Below.drewN ?_ _) | (refine Below.next (by assumption) ?_ (by first | omega | (simp; done) | (simp; omega)))))⟩
  cases h2 : isSp m.t
  · go_enter Tryz.func55, Tryz.ntmps55
    go_wp2_with (first | (go_at_call 80; refine (isSpot_any _ _).mono ?_; rintro e w' ⟨rfl, o, rfl⟩) | (go_at_call 43; refine (within_any _ _ _ _).mono ?_; rintro e w' ⟨rfl, rfl⟩))
    go_ret
    exact ⟨ret_b2 (by rw [e0.out, h1, h2]; rfl), by (repeat (first | exact Below.refl _ _ | assumption | (refine Below.alloc ?_ (by first | omega | (simp; done) | (simp; omega)) _) | (refine Below.setCell ?_ (by first | omega | (simp; done) | (simp; omega)) _) | (refine Below.drew ?_) | (refine Below.drewN ?_ _) | (refine Below.next (by assumption) ?_ (by first | omega | (simp; done) | (simp; omega)))))⟩
  · go_enter Tryz.func55, Tryz.ntmps55
    go_wp2_with (first | (go_at_call 80; refine (isSpot_any _ _).mono ?_; rintro e w' ⟨rfl, o, rfl⟩) | (go_at_call 43; refine (within_any _ _ _ _).mono ?_; rintro e w' ⟨rfl, rfl⟩))
    go_ret
    exact ⟨ret_b2 (by rw [e0.out, h1, h2]; rfl), by (repeat (first | exact Below.refl _ _ | assumption | (refine Below.alloc ?_ (by first | omega | (simp; done) | (simp; omega)) _) | (refine Below.setCell ?_ (by first | omega | (simp; done) | (simp; omega)) _) | (refine Below.drew ?_) | (refine Below.drewN ?_ _) | (refine Below.next (by assumption) ?_ (by first | omega | (simp; done) | (simp; omega)))))⟩

set_option maxRecDepth 100000 in
theorem rpMove_any (m : Mv) (w : World) : Calls Tryz.prog 31 #[.agg #[.int .i64 m.f.x, .int .i64 m.f.y, .int .i64 m.t.x, .int .i64 m.t.y, .int .i64 m.c]] w fun e w' => e = .returned (.bool (shMv m)) ∧ Below w.heap.size w w' := by
  have e0 : Hid (shMv m = (isMw m && decide (m.c ≤ 16))) := Lib.hid rfl
  cases h1 : isMw m
  all_goals
    have H1 := Lib.hid h1
    clear h1
    go_enter Tryz.func31, Tryz.ntmps31
    go_wp2_with (go_at_call 59; refine (mvGood_mw m _).mono ?_; rintro e w' ⟨he, hq⟩; rw [H1.out] at he; subst he; obtain ⟨hz, hc, hf⟩ := bel hq; (try simp at hz); (try have gz1 : w.heap.size < w'.heap.size := by omega); (try have gz2 : w.heap.size + 1 < w'.heap.size := by omega); (try have gz3 : wr.heap.size < w'.heap.size := by omega))
    go_ret
    exact ⟨ret_b2 (by rw [e0.out, H1.out]; simp), by (repeat (first | exact Below.refl _ _ | assumption | (refine Below.alloc ?_ (by first | omega | (simp; done) | (simp; omega)) _) | (refine Below.setCell ?_ (by first | omega | (simp; done) | (simp; omega)) _) | (refine Below.drew ?_) | (refine Below.drewN ?_ _) | (refine Below.next (by assumption) ?_ (by first | omega | (simp; done) | (simp; omega)))))⟩

set_option maxRecDepth 100000 in
theorem isShortMove_any (m : Mv) (w : World) : Calls Tryz.prog 28 #[.agg #[.int .i64 m.f.x, .int .i64 m.f.y, .int .i64 m.t.x, .int .i64 m.t.y, .int .i64 m.c]] w fun e w' => e = .returned (.bool (shMv m)) ∧ Below w.heap.size w w' := by
  have e0 : Hid (shMv m = (isMw m && decide (m.c ≤ 16))) := Lib.hid rfl
  cases h1 : isMw m
  all_goals
    have H1 := Lib.hid h1
    clear h1
    go_enter Tryz.func28, Tryz.ntmps28
    go_wp2_with (go_at_call 55; refine (IsMove_mw m _).mono ?_; rintro e w' ⟨he, hq⟩; rw [H1.out] at he; subst he; obtain ⟨hz, hc, hf⟩ := bel hq; (try simp at hz); (try have gz1 : w.heap.size < w'.heap.size := by omega); (try have gz2 : w.heap.size + 1 < w'.heap.size := by omega); (try have gz3 : wr.heap.size < w'.heap.size := by omega))
    go_ret
    exact ⟨ret_b2 (by rw [e0.out, H1.out]; simp), by (repeat (first | exact Below.refl _ _ | assumption | (refine Below.alloc ?_ (by first | omega | (simp; done) | (simp; omega)) _) | (refine Below.setCell ?_ (by first | omega | (simp; done) | (simp; omega)) _) | (refine Below.drew ?_) | (refine Below.drewN ?_ _) | (refine Below.next (by assumption) ?_ (by first | omega | (simp; done) | (simp; omega)))))⟩

set_option maxRecDepth 100000 in
theorem rpDelay_any (x : Int) (w : World) : Calls Tryz.prog 33 #[.int .i64 x] w fun e w' => e = .returned (.bool (inR x 0 4)) ∧ w = w' := by
  go_enter Tryz.func33, Tryz.ntmps33
  go_wp2_with (go_at_call 45; refine (l1In_any _ _ _ _).mono ?_; rintro e w' ⟨rfl, rfl⟩)
  go_ret
  exact ⟨rfl, rfl⟩

set_option maxRecDepth 100000 in
theorem apGood_any (a b : Mv) (w : World) : Calls Tryz.prog 32 #[.agg #[.int .i64 a.f.x, .int .i64 a.f.y, .int .i64 a.t.x, .int .i64 a.t.y, .int .i64 a.c], .agg #[.int .i64 b.f.x, .int .i64 b.f.y, .int .i64 b.t.x, .int .i64 b.t.y, .int .i64 b.c]] w fun e w' => e = .returned (.bool (tgOk a b)) ∧ Below w.heap.size w w' := by
  have e0 : Hid (tgOk a b = ((isMw a && isMw b) && decide (a.c = b.c))) := Lib.hid rfl
  cases h1 : isMw a
  all_goals
    have H1 := Lib.hid h1
    clear h1
    cases h2 : isMw b
    all_goals
      have H2 := Lib.hid h2
      clear h2
      go_enter Tryz.func32, Tryz.ntmps32
      go_wp2_with (first | (go_at_call 59; with_reducible refine (mvGood_mw a _).mono ?_; rintro e w' ⟨he, hq⟩; rw [H1.out] at he; subst he; obtain ⟨hz, hc, hf⟩ := bel hq; (try simp at hz); (try have gz1 : w.heap.size < w'.heap.size := by omega); (try have gz2 : w.heap.size + 1 < w'.heap.size := by omega); (try have gz3 : wr.heap.size < w'.heap.size := by omega)) | (go_at_call 59; with_reducible refine (mvGood_mw b _).mono ?_; rintro e w' ⟨he, hq⟩; rw [H2.out] at he; subst he; obtain ⟨hz, hc, hf⟩ := bel hq; (try simp at hz); (try have gz1 : w.heap.size < w'.heap.size := by omega); (try have gz2 : w.heap.size + 1 < w'.heap.size := by omega); (try have gz3 : wr.heap.size < w'.heap.size := by omega)))
      go_ret
      exact ⟨ret_b2 (by rw [e0.out, H1.out, H2.out]; simp [beq_dec]), by (repeat (first | exact Below.refl _ _ | assumption | (refine Below.alloc ?_ (by first | omega | (simp; done) | (simp; omega)) _) | (refine Below.setCell ?_ (by first | omega | (simp; done) | (simp; omega)) _) | (refine Below.drew ?_) | (refine Below.drewN ?_ _) | (refine Below.next (by assumption) ?_ (by first | omega | (simp; done) | (simp; omega)))))⟩

set_option maxRecDepth 100000 in
theorem goTogether_any (a b : Mv) (w : World) : Calls Tryz.prog 50 #[.agg #[.int .i64 a.f.x, .int .i64 a.f.y, .int .i64 a.t.x, .int .i64 a.t.y, .int .i64 a.c], .agg #[.int .i64 b.f.x, .int .i64 b.f.y, .int .i64 b.t.x, .int .i64 b.t.y, .int .i64 b.c]] w fun e w' => e = .returned (.bool (tgOk a b)) ∧ Below w.heap.size w w' := by
  have e0 : Hid (tgOk a b = ((isMw a && isMw b) && decide (a.c = b.c))) := Lib.hid rfl
  cases h1 : isMw a
  all_goals
    have H1 := Lib.hid h1
    clear h1
    cases h2 : isMw b
    all_goals
      have H2 := Lib.hid h2
      clear h2
      go_enter Tryz.func50, Tryz.ntmps50
      go_wp2_with (first | (go_at_call 55; with_reducible refine (IsMove_mw a _).mono ?_; rintro e w' ⟨he, hq⟩; rw [H1.out] at he; subst he; obtain ⟨hz, hc, hf⟩ := bel hq; (try simp at hz); (try have gz1 : w.heap.size < w'.heap.size := by omega); (try have gz2 : w.heap.size + 1 < w'.heap.size := by omega); (try have gz3 : wr.heap.size < w'.heap.size := by omega)) | (go_at_call 55; with_reducible refine (IsMove_mw b _).mono ?_; rintro e w' ⟨he, hq⟩; rw [H2.out] at he; subst he; obtain ⟨hz, hc, hf⟩ := bel hq; (try simp at hz); (try have gz1 : w.heap.size < w'.heap.size := by omega); (try have gz2 : w.heap.size + 1 < w'.heap.size := by omega); (try have gz3 : wr.heap.size < w'.heap.size := by omega)))
      go_ret
      exact ⟨ret_b2 (by rw [e0.out, H1.out, H2.out]; simp [beq_dec]), by (repeat (first | exact Below.refl _ _ | assumption | (refine Below.alloc ?_ (by first | omega | (simp; done) | (simp; omega)) _) | (refine Below.setCell ?_ (by first | omega | (simp; done) | (simp; omega)) _) | (refine Below.drew ?_) | (refine Below.drewN ?_ _) | (refine Below.next (by assumption) ?_ (by first | omega | (simp; done) | (simp; omega)))))⟩

set_option maxRecDepth 100000 in
theorem spec_PlaceDelayed_any (m : Mv) (d c : Int) (w : World) : Calls Tryz.prog 14 #[.agg #[.int .i64 m.f.x, .int .i64 m.f.y, .int .i64 m.t.x, .int .i64 m.t.y, .int .i64 m.c], .int .i64 d, .int .i64 c] w fun e w' => e = .returned (.tuple #[.int .i64 (pdX m d c), .int .i64 (pdY m d c), .bool (pdOk m d c)]) ∧ Below w.heap.size w w' := by
  have e0 : Hid (pdOk m d c = ((shMv m && inR d 0 4) && inR c 0 100)) := Lib.hid rfl
  have e1 : Hid (pdOk m d c = false → pdX m d c = 0 ∧ pdY m d c = 0) := Lib.hid (fun h => by simp [pdX, pdY, h])
  have e2 : Hid (pdOk m d c = true → pdX m d c = plX m (clk m.c d c) ∧ pdY m d c = plY m (clk m.c d c)) := Lib.hid (fun h => by simp [pdX, pdY, h])
  cases h1 : shMv m
  all_goals
    have H1 := Lib.hid h1
    clear h1
    go_enter Tryz.func14, Tryz.ntmps14
    go_wp2_with fail
    refine (rpMove_any m _).mono ?_
    rintro e w1 ⟨he, hq⟩
    rw [H1.out] at he
    subst he
    have m0 : w1.cell? ⟨w.heap.size, 0, none⟩ = some (.int .i64 m.f.x) := (hq.cell (by first | omega | (simp; done) | (simp; omega))).trans (by simp [go_sem])
    have m1 : w1.cell? ⟨w.heap.size, 1, none⟩ = some (.int .i64 m.f.y) := (hq.cell (by first | omega | (simp; done) | (simp; omega))).trans (by simp [go_sem])
    have m2 : w1.cell? ⟨w.heap.size, 2, none⟩ = some (.int .i64 m.t.x) := (hq.cell (by first | omega | (simp; done) | (simp; omega))).trans (by simp [go_sem])
    have m3 : w1.cell? ⟨w.heap.size, 3, none⟩ = some (.int .i64 m.t.y) := (hq.cell (by first | omega | (simp; done) | (simp; omega))).trans (by simp [go_sem])
    have m4 : w1.cell? ⟨w.heap.size, 4, none⟩ = some (.int .i64 m.c) := (hq.cell (by first | omega | (simp; done) | (simp; omega))).trans (by simp [go_sem])
    have hb1 : Below w.heap.size w w1 := by (repeat (first | exact Below.refl _ _ | assumption | (refine Below.alloc ?_ (by first | omega | (simp; done) | (simp; omega)) _) | (refine Below.setCell ?_ (by first | omega | (simp; done) | (simp; omega)) _) | (refine Below.drew ?_) | (refine Below.drewN ?_ _) | (refine Below.next (by assumption) ?_ (by first | omega | (simp; done) | (simp; omega)))))
    have gz1 : w.heap.size < w1.heap.size := World.block_lt_of_cell? _ _ m0
    clear hq
  · go_wp2_with fail
    go_ret3
    have hn : pdOk m d c = false := by rw [e0.out, H1.out]; rfl
    exact ⟨ret_xyb (e1.out hn).1.symm (e1.out hn).2.symm hn.symm, by (repeat (first | exact Below.refl _ _ | assumption | (refine Below.alloc ?_ (by first | omega | (simp; done) | (simp; omega)) _) | (refine Below.setCell ?_ (by first | omega | (simp; done) | (simp; omega)) _) | (refine Below.drew ?_) | (refine Below.drewN ?_ _) | (refine Below.next (by assumption) ?_ (by first | omega | (simp; done) | (simp; omega)))))⟩
  cases h2 : inR d 0 4
  all_goals
    have H2 := Lib.hid h2
    clear h2
    go_wp2_with fail
    refine (rpDelay_any _ _).mono ?_
    rintro e w2 ⟨he, rfl⟩
    rw [H2.out] at he
    subst he
  · go_wp2_with fail
    go_ret3
    have hn : pdOk m d c = false := by rw [e0.out, H1.out, H2.out]; rfl
    exact ⟨ret_xyb (e1.out hn).1.symm (e1.out hn).2.symm hn.symm, by (repeat (first | exact Below.refl _ _ | assumption | (refine Below.alloc ?_ (by first | omega | (simp; done) | (simp; omega)) _) | (refine Below.setCell ?_ (by first | omega | (simp; done) | (simp; omega)) _) | (refine Below.drew ?_) | (refine Below.drewN ?_ _) | (refine Below.next (by assumption) ?_ (by first | omega | (simp; done) | (simp; omega)))))⟩
  cases h3 : inR c 0 100
  all_goals
    have H3 := Lib.hid h3
    clear h3
    go_wp2_with fail
    refine (l1In_any _ _ _ _).mono ?_
    rintro e w3 ⟨he, rfl⟩
    rw [H3.out] at he
    subst he
  · go_wp2_with fail
    go_ret3
    have hn : pdOk m d c = false := by rw [e0.out, H1.out, H2.out, H3.out]; rfl
    exact ⟨ret_xyb (e1.out hn).1.symm (e1.out hn).2.symm hn.symm, by (repeat (first | exact Below.refl _ _ | assumption | (refine Below.alloc ?_ (by first | omega | (simp; done) | (simp; omega)) _) | (refine Below.setCell ?_ (by first | omega | (simp; done) | (simp; omega)) _) | (refine Below.drew ?_) | (refine Below.drewN ?_ _) | (refine Below.next (by assumption) ?_ (by first | omega | (simp; done) | (simp; omega)))))⟩
  have hy : pdOk m d c = true := by rw [e0.out, H1.out, H2.out, H3.out]; rfl
  have HE := Lib.hid (e2.out hy)
  have HY := Lib.hid hy
  clear hy
  obtain ⟨d0, d1⟩ := inR_iff.1 H2.out
  obtain ⟨c0, c1⟩ := inR_iff.1 H3.out
  go_wp2_with fail
  refine (rpAt_any m d c (shMv_ok H1.out) d0 d1 c0 c1 _).mono ?_
  rintro e w4 ⟨rfl, hq⟩
  have hb4 : Below w.heap.size w w4 := by (repeat (first | exact Below.refl _ _ | assumption | (refine Below.alloc ?_ (by first | omega | (simp; done) | (simp; omega)) _) | (refine Below.setCell ?_ (by first | omega | (simp; done) | (simp; omega)) _) | (refine Below.drew ?_) | (refine Below.drewN ?_ _) | (refine Below.next (by assumption) ?_ (by first | omega | (simp; done) | (simp; omega)))))
  go_wp2_with fail
  go_ret3
  exact ⟨ret_xyb HE.out.1.symm HE.out.2.symm HY.out.symm, hb4⟩

set_option maxRecDepth 100000 in
theorem impl_PlaceDelayed_any (m : Mv) (d c : Int) (w : World) : Calls Tryz.prog 13 #[.agg #[.int .i64 m.f.x, .int .i64 m.f.y, .int .i64 m.t.x, .int .i64 m.t.y, .int .i64 m.c], .int .i64 d, .int .i64 c] w fun e w' => e = .returned (.tuple #[.int .i64 (pdX m d c), .int .i64 (pdY m d c), .bool (pdOk m d c)]) ∧ Below w.heap.size w w' := by
  have e0 : Hid (pdOk m d c = ((shMv m && inR d 0 4) && inR c 0 100)) := Lib.hid rfl
  have e1 : Hid (pdOk m d c = false → pdX m d c = 0 ∧ pdY m d c = 0) := Lib.hid (fun h => by simp [pdX, pdY, h])
  have e2 : Hid (pdOk m d c = true → pdX m d c = plX m (clk m.c d c) ∧ pdY m d c = plY m (clk m.c d c)) := Lib.hid (fun h => by simp [pdX, pdY, h])
  cases h1 : shMv m
  all_goals
    have H1 := Lib.hid h1
    clear h1
    go_enter Tryz.func13, Tryz.ntmps13
    go_wp2_with fail
    refine (isShortMove_any m _).mono ?_
    rintro e w1 ⟨he, hq⟩
    rw [H1.out] at he
    subst he
    have m0 : w1.cell? ⟨w.heap.size, 0, none⟩ = some (.int .i64 m.f.x) := (hq.cell (by first | omega | (simp; done) | (simp; omega))).trans (by simp [go_sem])
    have m1 : w1.cell? ⟨w.heap.size, 1, none⟩ = some (.int .i64 m.f.y) := (hq.cell (by first | omega | (simp; done) | (simp; omega))).trans (by simp [go_sem])
    have m2 : w1.cell? ⟨w.heap.size, 2, none⟩ = some (.int .i64 m.t.x) := (hq.cell (by first | omega | (simp; done) | (simp; omega))).trans (by simp [go_sem])
    have m3 : w1.cell? ⟨w.heap.size, 3, none⟩ = some (.int .i64 m.t.y) := (hq.cell (by first | omega | (simp; done) | (simp; omega))).trans (by simp [go_sem])
    have m4 : w1.cell? ⟨w.heap.size, 4, none⟩ = some (.int .i64 m.c) := (hq.cell (by first | omega | (simp; done) | (simp; omega))).trans (by simp [go_sem])
    have hb1 : Below w.heap.size w w1 := by (repeat (first | exact Below.refl _ _ | assumption | (refine Below.alloc ?_ (by first | omega | (simp; done) | (simp; omega)) _) | (refine Below.setCell ?_ (by first | omega | (simp; done) | (simp; omega)) _) | (refine Below.drew ?_) | (refine Below.drewN ?_ _) | (refine Below.next (by assumption) ?_ (by first | omega | (simp; done) | (simp; omega)))))
    have gz1 : w.heap.size < w1.heap.size := World.block_lt_of_cell? _ _ m0
    clear hq
  · go_wp2_with fail
    go_ret3
    have hn : pdOk m d c = false := by rw [e0.out, H1.out]; rfl
    exact ⟨ret_xyb (e1.out hn).1.symm (e1.out hn).2.symm hn.symm, by (repeat (first | exact Below.refl _ _ | assumption | (refine Below.alloc ?_ (by first | omega | (simp; done) | (simp; omega)) _) | (refine Below.setCell ?_ (by first | omega | (simp; done) | (simp; omega)) _) | (refine Below.drew ?_) | (refine Below.drewN ?_ _) | (refine Below.next (by assumption) ?_ (by first | omega | (simp; done) | (simp; omega)))))⟩
  cases h2 : inR d 0 4
  all_goals
    have H2 := Lib.hid h2
    clear h2
    go_wp2_with fail
    refine (isDelay_any _ _).mono ?_
    rintro e w2 ⟨he, rfl⟩
    rw [H2.out] at he
    subst he
  · go_wp2_with fail
    go_ret3
    have hn : pdOk m d c = false := by rw [e0.out, H1.out, H2.out]; rfl
    exact ⟨ret_xyb (e1.out hn).1.symm (e1.out hn).2.symm hn.symm, by (repeat (first | exact Below.refl _ _ | assumption | (refine Below.alloc ?_ (by first | omega | (simp; done) | (simp; omega)) _) | (refine Below.setCell ?_ (by first | omega | (simp; done) | (simp; omega)) _) | (refine Below.drew ?_) | (refine Below.drewN ?_ _) | (refine Below.next (by assumption) ?_ (by first | omega | (simp; done) | (simp; omega)))))⟩
  cases h3 : inR c 0 100
  all_goals
    have H3 := Lib.hid h3
    clear h3
    go_wp2_with fail
    refine (within_any _ _ _ _).mono ?_
    rintro e w3 ⟨he, rfl⟩
    rw [H3.out] at he
    subst he
  · go_wp2_with fail
    go_ret3
    have hn : pdOk m d c = false := by rw [e0.out, H1.out, H2.out, H3.out]; rfl
    exact ⟨ret_xyb (e1.out hn).1.symm (e1.out hn).2.symm hn.symm, by (repeat (first | exact Below.refl _ _ | assumption | (refine Below.alloc ?_ (by first | omega | (simp; done) | (simp; omega)) _) | (refine Below.setCell ?_ (by first | omega | (simp; done) | (simp; omega)) _) | (refine Below.drew ?_) | (refine Below.drewN ?_ _) | (refine Below.next (by assumption) ?_ (by first | omega | (simp; done) | (simp; omega)))))⟩
  have hy : pdOk m d c = true := by rw [e0.out, H1.out, H2.out, H3.out]; rfl
  have HE := Lib.hid (e2.out hy)
  have HY := Lib.hid hy
  clear hy
  obtain ⟨d0, d1⟩ := inR_iff.1 H2.out
  obtain ⟨c0, c1⟩ := inR_iff.1 H3.out
  go_wp2_with fail
  refine (placeDelayed_any m d c (shMv_ok H1.out) d0 d1 c0 c1 _).mono ?_
  rintro e w4 ⟨rfl, hq⟩
  have hb4 : Below w.heap.size w w4 := by (repeat (first | exact Below.refl _ _ | assumption | (refine Below.alloc ?_ (by first | omega | (simp; done) | (simp; omega)) _) | (refine Below.setCell ?_ (by first | omega | (simp; done) | (simp; omega)) _) | (refine Below.drew ?_) | (refine Below.drewN ?_ _) | (refine Below.next (by assumption) ?_ (by first | omega | (simp; done) | (simp; omega)))))
  go_wp2_with fail
  go_ret3
  exact ⟨ret_xyb HE.out.1.symm HE.out.2.symm HY.out.symm, hb4⟩
end Go.Proofs.YthehcjfljjfnmaaGreat
