/-
  Contracts: transitions and repairs, the program's and the reference's.
-/
import Derived.Test.YthehcjfljjfnmaaGreatPlc
import Derived.Test.YthehcjfljjfnmaaGreatBase
namespace Go.Proofs.YthehcjfljjfnmaaGreat
open Go.RowKit Go.Sort

def trOk (F T : List Sp) (n : Int) (P : List Int) : Bool := (((chOk F && chOk T) && decide (F.length = T.length)) && inR n 1 64) && plOk F.length P
def rpOk (F T : List Sp) (n : Int) (P : List Int) : Bool := (trOk F T n P && decide (n ≤ 16)) && decide (F.length ≤ 6)
def dlOk (F T : List Sp) (n : Int) (P D : List Int) : Bool := (rpOk F T n P && decide (D.length = F.length)) && D.all fun x => inR x 0 4
theorem trOk_iff {F T : List Sp} {n : Int} {P : List Int} : trOk F T n P = true ↔ chOk F = true ∧ chOk T = true ∧ F.length = T.length ∧ (1 ≤ n ∧ n ≤ 64) ∧ plOk F.length P = true := by
  simp only [trOk, Bool.and_eq_true, decide_eq_true_eq, inR_iff, and_assoc]
theorem rpOk_iff {F T : List Sp} {n : Int} {P : List Int} : rpOk F T n P = true ↔ trOk F T n P = true ∧ n ≤ 16 ∧ F.length ≤ 6 := by
  simp only [rpOk, Bool.and_eq_true, decide_eq_true_eq, and_assoc]
theorem dlOk_iff {F T : List Sp} {n : Int} {P D : List Int} : dlOk F T n P D = true ↔ rpOk F T n P = true ∧ D.length = F.length ∧ (D.all fun x => inR x 0 4) = true := by
  simp only [dlOk, Bool.and_eq_true, decide_eq_true_eq, and_assoc]

set_option maxRecDepth 100000 in
theorem chPair_any (A : Option Addr) (c : Nat) (F : List Sp) (B : Option Addr) (d : Nat) (T : List Sp) (w : World) (hf : Mem w A (spots F)) (ht : Mem w B (spots T)) (lf : F.length ≤ 1048576) (lt : T.length ≤ 1048576) (hfc : F.length ≤ c) (htc : T.length ≤ d) : Calls Tryz.prog 96 #[.slice A F.length c, .slice B T.length d] w fun e w' => e = .returned (.bool ((chOk F && chOk T) && decide (F.length = T.length))) ∧ Below w.heap.size w w' := by
  cases h1 : chOk F
  · have H1 := Lib.hid h1
    clear h1
    go_enter Tryz.func96, Tryz.ntmps96
    go_wp2_with (go_at_call 100; refine (chGood_any _ _ F _ (hf.below (by (repeat (first | exact Below.refl _ _ | assumption | (refine Below.alloc ?_ (by first | omega | (simp; done) | (simp; omega)) _) | (refine Below.setCell ?_ (by first | omega | (simp; done) | (simp; omega)) _) | (refine Below.drew ?_) | (refine Below.drewN ?_ _) | (refine Below.next (by assumption) ?_ (by first | omega | (simp; done) | (simp; omega))))))) lf hfc).mono ?_; rintro e w' ⟨he, hq⟩; rw [H1.out] at he; subst he)
    go_ret
    exact ⟨ret_bool (by simp), by (repeat (first | exact Below.refl _ _ | assumption | (refine Below.alloc ?_ (by first | omega | (simp; done) | (simp; omega)) _) | (refine Below.setCell ?_ (by first | omega | (simp; done) | (simp; omega)) _) | (refine Below.drew ?_) | (refine Below.drewN ?_ _) | (refine Below.next (by assumption) ?_ (by first | omega | (simp; done) | (simp; omega)))))⟩
  cases h2 : chOk T
  · have H1 := Lib.hid h1
    have H2 := Lib.hid h2
    clear h1 h2
    go_enter Tryz.func96, Tryz.ntmps96
    go_wp2_with fail
    refine (chGood_any _ _ F _ (hf.below (by (repeat (first | exact Below.refl _ _ | assumption | (refine Below.alloc ?_ (by first | omega | (simp; done) | (simp; omega)) _) | (refine Below.setCell ?_ (by first | omega | (simp; done) | (simp; omega)) _) | (refine Below.drew ?_) | (refine Below.drewN ?_ _) | (refine Below.next (by assumption) ?_ (by first | omega | (simp; done) | (simp; omega))))))) lf hfc).mono ?_
    rintro e w1 ⟨he, hq⟩
    rw [H1.out] at he
    subst he
    have hz := hq.size
    go_wp2_with fail
    refine (chGood_any _ _ T _ (ht.below (by (repeat (first | exact Below.refl _ _ | assumption | (refine Below.alloc ?_ (by first | omega | (simp; done) | (simp; omega)) _) | (refine Below.setCell ?_ (by first | omega | (simp; done) | (simp; omega)) _) | (refine Below.drew ?_) | (refine Below.drewN ?_ _) | (refine Below.next (by assumption) ?_ (by first | omega | (simp; done) | (simp; omega))))))) lt htc).mono ?_
    rintro e w2 ⟨he, hq2⟩
    rw [H2.out] at he
    subst he
    go_wp2
    go_ret
    exact ⟨ret_bool (by simp), by (repeat (first | exact Below.refl _ _ | assumption | (refine Below.alloc ?_ (by first | omega | (simp; done) | (simp; omega)) _) | (refine Below.setCell ?_ (by first | omega | (simp; done) | (simp; omega)) _) | (refine Below.drew ?_) | (refine Below.drewN ?_ _) | (refine Below.next (by assumption) ?_ (by first | omega | (simp; done) | (simp; omega)))))⟩
  · have H1 := Lib.hid h1
    have H2 := Lib.hid h2
    clear h1 h2
    go_enter Tryz.func96, Tryz.ntmps96
    go_wp2_with fail
    refine (chGood_any _ _ F _ (hf.below (by (repeat (first | exact Below.refl _ _ | assumption | (refine Below.alloc ?_ (by first | omega | (simp; done) | (simp; omega)) _) | (refine Below.setCell ?_ (by first | omega | (simp; done) | (simp; omega)) _) | (refine Below.drew ?_) | (refine Below.drewN ?_ _) | (refine Below.next (by assumption) ?_ (by first | omega | (simp; done) | (simp; omega))))))) lf hfc).mono ?_
    rintro e w1 ⟨he, hq⟩
    rw [H1.out] at he
    subst he
    have hz := hq.size
    go_wp2_with fail
    refine (chGood_any _ _ T _ (ht.below (by (repeat (first | exact Below.refl _ _ | assumption | (refine Below.alloc ?_ (by first | omega | (simp; done) | (simp; omega)) _) | (refine Below.setCell ?_ (by first | omega | (simp; done) | (simp; omega)) _) | (refine Below.drew ?_) | (refine Below.drewN ?_ _) | (refine Below.next (by assumption) ?_ (by first | omega | (simp; done) | (simp; omega))))))) lt htc).mono ?_
    rintro e w2 ⟨he, hq2⟩
    rw [H2.out] at he
    subst he
    go_wp2
    go_ret
    exact ⟨ret_bool (by simp; first | rfl | (rw [decide_eq_decide]; omega) | (rw [Bool.eq_iff_iff]; simp; omega)), by (repeat (first | exact Below.refl _ _ | assumption | (refine Below.alloc ?_ (by first | omega | (simp; done) | (simp; omega)) _) | (refine Below.setCell ?_ (by first | omega | (simp; done) | (simp; omega)) _) | (refine Below.drew ?_) | (refine Below.drewN ?_ _) | (refine Below.next (by assumption) ?_ (by first | omega | (simp; done) | (simp; omega)))))⟩

set_option maxHeartbeats 800000 in
set_option maxRecDepth 100000 in
theorem asGood_any (A : Option Addr) (c : Nat) (F : List Sp) (B : Option Addr) (d : Nat) (T : List Sp) (n : Int) (C : Option Addr) (f : Nat) (P : List Int) (w : World) (hf : Mem w A (spots F)) (ht : Mem w B (spots T)) (hp : Mem w C (ints P)) (lf : F.length ≤ 1048576) (lt : T.length ≤ 1048576) (lp : P.length ≤ 1048576) (hfc : F.length ≤ c) (htc : T.length ≤ d) (hpc : P.length ≤ f) : Calls Tryz.prog 89 #[.agg #[.slice A F.length c, .slice B T.length d, .int .i64 n, .slice C P.length f]] w fun e w' => e = .returned (.bool (trOk F T n P)) ∧ Below w.heap.size w w' := by
  have e0 : Hid (trOk F T n P = ((((chOk F && chOk T) && decide (F.length = T.length)) && inR n 1 64) && plOk F.length P)) := Lib.hid rfl
  cases h1 : ((chOk F && chOk T) && decide (F.length = T.length))
  all_goals
    have H1 := Lib.hid h1
    clear h1
    go_enter Tryz.func89, Tryz.ntmps89
    go_wp2_with fail
    refine (chPair_any _ _ F _ _ T _ (hf.below (by (repeat (first | exact Below.refl _ _ | assumption | (refine Below.alloc ?_ (by first | omega | (simp; done) | (simp; omega)) _) | (refine Below.setCell ?_ (by first | omega | (simp; done) | (simp; omega)) _) | (refine Below.drew ?_) | (refine Below.drewN ?_ _) | (refine Below.next (by assumption) ?_ (by first | omega | (simp; done) | (simp; omega))))))) (ht.below (by (repeat (first | exact Below.refl _ _ | assumption | (refine Below.alloc ?_ (by first | omega | (simp; done) | (simp; omega)) _) | (refine Below.setCell ?_ (by first | omega | (simp; done) | (simp; omega)) _) | (refine Below.drew ?_) | (refine Below.drewN ?_ _) | (refine Below.next (by assumption) ?_ (by first | omega | (simp; done) | (simp; omega))))))) lf lt hfc htc).mono ?_
    rintro e w1 ⟨he, hq⟩
    rw [H1.out] at he
    subst he
    have m1_0 : w1.cell? ⟨w.heap.size, 0, none⟩ = some (.slice A F.length c) := (hq.cell (by first | omega | (simp; done) | (simp; omega))).trans (by simp [go_sem])
    have m1_1 : w1.cell? ⟨w.heap.size, 1, none⟩ = some (.slice B T.length d) := (hq.cell (by first | omega | (simp; done) | (simp; omega))).trans (by simp [go_sem])
    have m1_2 : w1.cell? ⟨w.heap.size, 2, none⟩ = some (.int .i64 n) := (hq.cell (by first | omega | (simp; done) | (simp; omega))).trans (by simp [go_sem])
    have m1_3 : w1.cell? ⟨w.heap.size, 3, none⟩ = some (.slice C P.length f) := (hq.cell (by first | omega | (simp; done) | (simp; omega))).trans (by simp [go_sem])
    have gz1 : w.heap.size < w1.heap.size := World.block_lt_of_cell? _ _ m1_0
    have hb1 : Below w.heap.size w w1 := by (repeat (first | exact Below.refl _ _ | assumption | (refine Below.alloc ?_ (by first | omega | (simp; done) | (simp; omega)) _) | (refine Below.setCell ?_ (by first | omega | (simp; done) | (simp; omega)) _) | (refine Below.drew ?_) | (refine Below.drewN ?_ _) | (refine Below.next (by assumption) ?_ (by first | omega | (simp; done) | (simp; omega)))))
    clear hq
  · go_wp2_with fail
    go_ret
    exact ⟨ret_bool (by rw [e0.out, H1.out]; rfl), by (repeat (first | exact Below.refl _ _ | assumption | (refine Below.alloc ?_ (by first | omega | (simp; done) | (simp; omega)) _) | (refine Below.setCell ?_ (by first | omega | (simp; done) | (simp; omega)) _) | (refine Below.drew ?_) | (refine Below.drewN ?_ _) | (refine Below.next (by assumption) ?_ (by first | omega | (simp; done) | (simp; omega)))))⟩
  cases h2 : inR n 1 64
  all_goals
    have H2 := Lib.hid h2
    clear h2
    go_wp2_with (go_at_call 45; refine (l1In_any _ _ _ _).mono ?_; rintro e w' ⟨he, rfl⟩; rw [H2.out] at he; subst he)
  · go_ret
    exact ⟨ret_bool (by rw [e0.out, H1.out, H2.out]; rfl), by (repeat (first | exact Below.refl _ _ | assumption | (refine Below.alloc ?_ (by first | omega | (simp; done) | (simp; omega)) _) | (refine Below.setCell ?_ (by first | omega | (simp; done) | (simp; omega)) _) | (refine Below.drew ?_) | (refine Below.drewN ?_ _) | (refine Below.next (by assumption) ?_ (by first | omega | (simp; done) | (simp; omega)))))⟩
  refine (maPlaces_any _ _ P F.length _ (hp.below (by (repeat (first | exact Below.refl _ _ | assumption | (refine Below.alloc ?_ (by first | omega | (simp; done) | (simp; omega)) _) | (refine Below.setCell ?_ (by first | omega | (simp; done) | (simp; omega)) _) | (refine Below.drew ?_) | (refine Below.drewN ?_ _) | (refine Below.next (by assumption) ?_ (by first | omega | (simp; done) | (simp; omega))))))) lp lf hpc).mono ?_
  rintro e w' ⟨rfl, rfl⟩
  go_wp2_with fail
  go_ret
  exact ⟨ret_bool (by rw [e0.out, H1.out, H2.out]; rfl), by (repeat (first | exact Below.refl _ _ | assumption | (refine Below.alloc ?_ (by first | omega | (simp; done) | (simp; omega)) _) | (refine Below.setCell ?_ (by first | omega | (simp; done) | (simp; omega)) _) | (refine Below.drew ?_) | (refine Below.drewN ?_ _) | (refine Below.next (by assumption) ?_ (by first | omega | (simp; done) | (simp; omega)))))⟩

set_option maxRecDepth 20000 in
set_option maxHeartbeats 800000 in
theorem IsTransition_any (A : Option Addr) (c : Nat) (F : List Sp) (B : Option Addr) (d : Nat) (T : List Sp) (n : Int) (C : Option Addr) (f : Nat) (P : List Int) (w : World) (hf : Mem w A (spots F)) (ht : Mem w B (spots T)) (hp : Mem w C (ints P)) (lf : F.length ≤ 1048576) (lt : T.length ≤ 1048576) (lp : P.length ≤ 1048576) (hfc : F.length ≤ c) (htc : T.length ≤ d) (hpc : P.length ≤ f) : Calls Tryz.prog 88 #[.agg #[.slice A F.length c, .slice B T.length d, .int .i64 n, .slice C P.length f]] w fun e w' => e = .returned (.bool (trOk F T n P)) ∧ Below w.heap.size w w' := by
  have e0 : Hid (trOk F T n P = ((((chOk F && chOk T) && decide (F.length = T.length)) && inR n 1 64) && plOk F.length P)) := Lib.hid rfl
  have hc12 : Hid (chOk F = true → F.length ≤ 12) := Lib.hid (fun h => (chOk_iff.1 h).1.2)
  cases h1 : chOk F
  all_goals
    have H1 := Lib.hid h1
    clear h1
    go_enter Tryz.func88, Tryz.ntmps88
    go_wp2_with fail
    refine (IsChart_any _ _ F _ (hf.below (by (repeat (first | exact Below.refl _ _ | assumption | (refine Below.alloc ?_ (by first | omega | (simp; done) | (simp; omega)) _) | (refine Below.setCell ?_ (by first | omega | (simp; done) | (simp; omega)) _) | (refine Below.drew ?_) | (refine Below.drewN ?_ _) | (refine Below.next (by assumption) ?_ (by first | omega | (simp; done) | (simp; omega))))))) lf hfc).mono ?_
    rintro e w1 ⟨he, hq⟩
    rw [H1.out] at he
    subst he
    have m1_0 : w1.cell? ⟨w.heap.size, 0, none⟩ = some (.slice A F.length c) := (hq.cell (by first | omega | (simp; done) | (simp; omega))).trans (by simp [go_sem])
    have m1_1 : w1.cell? ⟨w.heap.size, 1, none⟩ = some (.slice B T.length d) := (hq.cell (by first | omega | (simp; done) | (simp; omega))).trans (by simp [go_sem])
    have m1_2 : w1.cell? ⟨w.heap.size, 2, none⟩ = some (.int .i64 n) := (hq.cell (by first | omega | (simp; done) | (simp; omega))).trans (by simp [go_sem])
    have m1_3 : w1.cell? ⟨w.heap.size, 3, none⟩ = some (.slice C P.length f) := (hq.cell (by first | omega | (simp; done) | (simp; omega))).trans (by simp [go_sem])
    have gz1 : w.heap.size < w1.heap.size := World.block_lt_of_cell? _ _ m1_0
    have hb1 : Below w.heap.size w w1 := by (repeat (first | exact Below.refl _ _ | assumption | (refine Below.alloc ?_ (by first | omega | (simp; done) | (simp; omega)) _) | (refine Below.setCell ?_ (by first | omega | (simp; done) | (simp; omega)) _) | (refine Below.drew ?_) | (refine Below.drewN ?_ _) | (refine Below.next (by assumption) ?_ (by first | omega | (simp; done) | (simp; omega)))))
    clear hq
  · go_wp2_with fail
    go_ret
    exact ⟨ret_bool (by rw [e0.out, H1.out]; rfl), by (repeat (first | exact Below.refl _ _ | assumption | (refine Below.alloc ?_ (by first | omega | (simp; done) | (simp; omega)) _) | (refine Below.setCell ?_ (by first | omega | (simp; done) | (simp; omega)) _) | (refine Below.drew ?_) | (refine Below.drewN ?_ _) | (refine Below.next (by assumption) ?_ (by first | omega | (simp; done) | (simp; omega)))))⟩
  have hl12 := hc12.out H1.out
  cases h2 : chOk T
  all_goals
    have H2 := Lib.hid h2
    clear h2
    go_wp2_with fail
    refine (IsChart_any _ _ T _ (ht.below (by (repeat (first | exact Below.refl _ _ | assumption | (refine Below.alloc ?_ (by first | omega | (simp; done) | (simp; omega)) _) | (refine Below.setCell ?_ (by first | omega | (simp; done) | (simp; omega)) _) | (refine Below.drew ?_) | (refine Below.drewN ?_ _) | (refine Below.next (by assumption) ?_ (by first | omega | (simp; done) | (simp; omega))))))) lt htc).mono ?_
    rintro e w2 ⟨he, hq2⟩
    rw [H2.out] at he
    subst he
    have m2_0 : w2.cell? ⟨w.heap.size, 0, none⟩ = some (.slice A F.length c) := keep1 hq2 m1_0
    have m2_1 : w2.cell? ⟨w.heap.size, 1, none⟩ = some (.slice B T.length d) := keep1 hq2 m1_1
    have m2_2 : w2.cell? ⟨w.heap.size, 2, none⟩ = some (.int .i64 n) := keep1 hq2 m1_2
    have m2_3 : w2.cell? ⟨w.heap.size, 3, none⟩ = some (.slice C P.length f) := keep1 hq2 m1_3
    have gz2 : w.heap.size < w2.heap.size := World.block_lt_of_cell? _ _ m2_0
    have hb2 : Below w.heap.size w w2 := by (repeat (first | exact Below.refl _ _ | assumption | (refine Below.alloc ?_ (by first | omega | (simp; done) | (simp; omega)) _) | (refine Below.setCell ?_ (by first | omega | (simp; done) | (simp; omega)) _) | (refine Below.drew ?_) | (refine Below.drewN ?_ _) | (refine Below.next (by assumption) ?_ (by first | omega | (simp; done) | (simp; omega)))))
    clear hq2 hb1 gz1 m1_0 m1_1 m1_2 m1_3
  · go_wp2_with fail
    go_ret
    exact ⟨ret_bool (by rw [e0.out, H1.out, H2.out]; rfl), by (repeat (first | exact Below.refl _ _ | assumption | (refine Below.alloc ?_ (by first | omega | (simp; done) | (simp; omega)) _) | (refine Below.setCell ?_ (by first | omega | (simp; done) | (simp; omega)) _) | (refine Below.drew ?_) | (refine Below.drewN ?_ _) | (refine Below.next (by assumption) ?_ (by first | omega | (simp; done) | (simp; omega)))))⟩
  by_cases h3 : F.length = T.length
  case neg =>
    go_wp2_with fail
    go_ret
    exact ⟨ret_bool (by rw [e0.out, H1.out, H2.out, decide_eq_false h3]; rfl), by (repeat (first | exact Below.refl _ _ | assumption | (refine Below.alloc ?_ (by first | omega | (simp; done) | (simp; omega)) _) | (refine Below.setCell ?_ (by first | omega | (simp; done) | (simp; omega)) _) | (refine Below.drew ?_) | (refine Below.drewN ?_ _) | (refine Below.next (by assumption) ?_ (by first | omega | (simp; done) | (simp; omega)))))⟩
  have H3 := Lib.hid h3
  cases h4 : inR n 1 64
  all_goals
    have H4 := Lib.hid h4
    clear h4
    go_wp2_with (go_at_call 43; refine (within_any _ _ _ _).mono ?_; rintro e w' ⟨he, rfl⟩; rw [H4.out] at he; subst he)
  · go_ret
    exact ⟨ret_bool (by rw [e0.out, H1.out, H2.out, decide_eq_true H3.out, H4.out]; rfl), by (repeat (first | exact Below.refl _ _ | assumption | (refine Below.alloc ?_ (by first | omega | (simp; done) | (simp; omega)) _) | (refine Below.setCell ?_ (by first | omega | (simp; done) | (simp; omega)) _) | (refine Below.drew ?_) | (refine Below.drewN ?_ _) | (refine Below.next (by assumption) ?_ (by first | omega | (simp; done) | (simp; omega)))))⟩
  refine (isMatching_any _ _ P T.length _ (hp.below (by with_reducible exact hb2)) lp (by omega)).mono ?_
  rintro e w' ⟨rfl, rfl⟩
  go_wp2_with fail
  go_ret
  exact ⟨ret_bool (by rw [e0.out, H1.out, H2.out, decide_eq_true H3.out, H4.out, H3.out]; rfl), by with_reducible exact hb2⟩

set_option maxRecDepth 20000 in
theorem rpGood_any (A : Option Addr) (c : Nat) (F : List Sp) (B : Option Addr) (d : Nat) (T : List Sp) (n : Int) (C : Option Addr) (f : Nat) (P : List Int) (w : World) (hf : Mem w A (spots F)) (ht : Mem w B (spots T)) (hp : Mem w C (ints P)) (lf : F.length ≤ 1048576) (lt : T.length ≤ 1048576) (lp : P.length ≤ 1048576) (hfc : F.length ≤ c) (htc : T.length ≤ d) (hpc : P.length ≤ f) : Calls Tryz.prog 68 #[.agg #[.slice A F.length c, .slice B T.length d, .int .i64 n, .slice C P.length f]] w fun e w' => e = .returned (.bool (rpOk F T n P)) ∧ Below w.heap.size w w' := by
  have e0 : Hid (rpOk F T n P = ((trOk F T n P && decide (n ≤ 16)) && decide (F.length ≤ 6))) := Lib.hid rfl
  cases h1 : trOk F T n P
  all_goals
    have H1 := Lib.hid h1
    clear h1
    go_enter Tryz.func68, Tryz.ntmps68
    go_wp2_with fail
    refine (asGood_any A c F B d T n C f P _ (hf.below (by (repeat (first | exact Below.refl _ _ | assumption | (refine Below.alloc ?_ (by first | omega | (simp; done) | (simp; omega)) _) | (refine Below.setCell ?_ (by first | omega | (simp; done) | (simp; omega)) _) | (refine Below.drew ?_) | (refine Below.drewN ?_ _) | (refine Below.next (by assumption) ?_ (by first | omega | (simp; done) | (simp; omega))))))) (ht.below (by (repeat (first | exact Below.refl _ _ | assumption | (refine Below.alloc ?_ (by first | omega | (simp; done) | (simp; omega)) _) | (refine Below.setCell ?_ (by first | omega | (simp; done) | (simp; omega)) _) | (refine Below.drew ?_) | (refine Below.drewN ?_ _) | (refine Below.next (by assumption) ?_ (by first | omega | (simp; done) | (simp; omega))))))) (hp.below (by (repeat (first | exact Below.refl _ _ | assumption | (refine Below.alloc ?_ (by first | omega | (simp; done) | (simp; omega)) _) | (refine Below.setCell ?_ (by first | omega | (simp; done) | (simp; omega)) _) | (refine Below.drew ?_) | (refine Below.drewN ?_ _) | (refine Below.next (by assumption) ?_ (by first | omega | (simp; done) | (simp; omega))))))) lf lt lp hfc htc hpc).mono ?_
    rintro e w1 ⟨he, hq⟩
    rw [H1.out] at he
    subst he
    have m1_0 : w1.cell? ⟨w.heap.size, 0, none⟩ = some (.slice A F.length c) := (hq.cell (by first | omega | (simp; done) | (simp; omega))).trans (by simp [go_sem])
    have m1_1 : w1.cell? ⟨w.heap.size, 1, none⟩ = some (.slice B T.length d) := (hq.cell (by first | omega | (simp; done) | (simp; omega))).trans (by simp [go_sem])
    have m1_2 : w1.cell? ⟨w.heap.size, 2, none⟩ = some (.int .i64 n) := (hq.cell (by first | omega | (simp; done) | (simp; omega))).trans (by simp [go_sem])
    have m1_3 : w1.cell? ⟨w.heap.size, 3, none⟩ = some (.slice C P.length f) := (hq.cell (by first | omega | (simp; done) | (simp; omega))).trans (by simp [go_sem])
    have gz1 : w.heap.size < w1.heap.size := World.block_lt_of_cell? _ _ m1_0
    have hb1 : Below w.heap.size w w1 := by (repeat (first | exact Below.refl _ _ | assumption | (refine Below.alloc ?_ (by first | omega | (simp; done) | (simp; omega)) _) | (refine Below.setCell ?_ (by first | omega | (simp; done) | (simp; omega)) _) | (refine Below.drew ?_) | (refine Below.drewN ?_ _) | (refine Below.next (by assumption) ?_ (by first | omega | (simp; done) | (simp; omega)))))
    clear hq
  · go_wp2_with fail
    go_ret
    exact ⟨ret_bool (by rw [e0.out, H1.out]; rfl), by (repeat (first | exact Below.refl _ _ | assumption | (refine Below.alloc ?_ (by first | omega | (simp; done) | (simp; omega)) _) | (refine Below.setCell ?_ (by first | omega | (simp; done) | (simp; omega)) _) | (refine Below.drew ?_) | (refine Below.drewN ?_ _) | (refine Below.next (by assumption) ?_ (by first | omega | (simp; done) | (simp; omega)))))⟩
  have e2 : Hid (16 < n → decide (n ≤ 16) = false) := Lib.hid (fun h => decide_eq_false (by omega))
  by_cases h2 : n ≤ 16
  all_goals have H2 := Lib.hid h2
  · go_wp2_with fail
    go_ret
    exact ⟨ret_bool (by rw [e0.out, H1.out, decide_eq_true H2.out]; simp; first | done | omega | (rw [decide_eq_decide]; omega)), by (repeat (first | exact Below.refl _ _ | assumption | (refine Below.alloc ?_ (by first | omega | (simp; done) | (simp; omega)) _) | (refine Below.setCell ?_ (by first | omega | (simp; done) | (simp; omega)) _) | (refine Below.drew ?_) | (refine Below.drewN ?_ _) | (refine Below.next (by assumption) ?_ (by first | omega | (simp; done) | (simp; omega)))))⟩
  · go_wp2_with fail
    go_ret
    exact ⟨ret_bool (by rw [e0.out, H1.out, e2.out h2]; rfl), by (repeat (first | exact Below.refl _ _ | assumption | (refine Below.alloc ?_ (by first | omega | (simp; done) | (simp; omega)) _) | (refine Below.setCell ?_ (by first | omega | (simp; done) | (simp; omega)) _) | (refine Below.drew ?_) | (refine Below.drewN ?_ _) | (refine Below.next (by assumption) ?_ (by first | omega | (simp; done) | (simp; omega)))))⟩

set_option maxRecDepth 20000 in
theorem isRepaired_any (A : Option Addr) (c : Nat) (F : List Sp) (B : Option Addr) (d : Nat) (T : List Sp) (n : Int) (C : Option Addr) (f : Nat) (P : List Int) (w : World) (hf : Mem w A (spots F)) (ht : Mem w B (spots T)) (hp : Mem w C (ints P)) (lf : F.length ≤ 1048576) (lt : T.length ≤ 1048576) (lp : P.length ≤ 1048576) (hfc : F.length ≤ c) (htc : T.length ≤ d) (hpc : P.length ≤ f) : Calls Tryz.prog 66 #[.agg #[.slice A F.length c, .slice B T.length d, .int .i64 n, .slice C P.length f]] w fun e w' => e = .returned (.bool (rpOk F T n P)) ∧ Below w.heap.size w w' := by
  have e0 : Hid (rpOk F T n P = ((trOk F T n P && decide (n ≤ 16)) && decide (F.length ≤ 6))) := Lib.hid rfl
  cases h1 : trOk F T n P
  all_goals
    have H1 := Lib.hid h1
    clear h1
    go_enter Tryz.func66, Tryz.ntmps66
    go_wp2_with fail
    refine (IsTransition_any A c F B d T n C f P _ (hf.below (by (repeat (first | exact Below.refl _ _ | assumption | (refine Below.alloc ?_ (by first | omega | (simp; done) | (simp; omega)) _) | (refine Below.setCell ?_ (by first | omega | (simp; done) | (simp; omega)) _) | (refine Below.drew ?_) | (refine Below.drewN ?_ _) | (refine Below.next (by assumption) ?_ (by first | omega | (simp; done) | (simp; omega))))))) (ht.below (by (repeat (first | exact Below.refl _ _ | assumption | (refine Below.alloc ?_ (by first | omega | (simp; done) | (simp; omega)) _) | (refine Below.setCell ?_ (by first | omega | (simp; done) | (simp; omega)) _) | (refine Below.drew ?_) | (refine Below.drewN ?_ _) | (refine Below.next (by assumption) ?_ (by first | omega | (simp; done) | (simp; omega))))))) (hp.below (by (repeat (first | exact Below.refl _ _ | assumption | (refine Below.alloc ?_ (by first | omega | (simp; done) | (simp; omega)) _) | (refine Below.setCell ?_ (by first | omega | (simp; done) | (simp; omega)) _) | (refine Below.drew ?_) | (refine Below.drewN ?_ _) | (refine Below.next (by assumption) ?_ (by first | omega | (simp; done) | (simp; omega))))))) lf lt lp hfc htc hpc).mono ?_
    rintro e w1 ⟨he, hq⟩
    rw [H1.out] at he
    subst he
    have m1_0 : w1.cell? ⟨w.heap.size, 0, none⟩ = some (.slice A F.length c) := (hq.cell (by first | omega | (simp; done) | (simp; omega))).trans (by simp [go_sem])
    have m1_1 : w1.cell? ⟨w.heap.size, 1, none⟩ = some (.slice B T.length d) := (hq.cell (by first | omega | (simp; done) | (simp; omega))).trans (by simp [go_sem])
    have m1_2 : w1.cell? ⟨w.heap.size, 2, none⟩ = some (.int .i64 n) := (hq.cell (by first | omega | (simp; done) | (simp; omega))).trans (by simp [go_sem])
    have m1_3 : w1.cell? ⟨w.heap.size, 3, none⟩ = some (.slice C P.length f) := (hq.cell (by first | omega | (simp; done) | (simp; omega))).trans (by simp [go_sem])
    have gz1 : w.heap.size < w1.heap.size := World.block_lt_of_cell? _ _ m1_0
    have hb1 : Below w.heap.size w w1 := by (repeat (first | exact Below.refl _ _ | assumption | (refine Below.alloc ?_ (by first | omega | (simp; done) | (simp; omega)) _) | (refine Below.setCell ?_ (by first | omega | (simp; done) | (simp; omega)) _) | (refine Below.drew ?_) | (refine Below.drewN ?_ _) | (refine Below.next (by assumption) ?_ (by first | omega | (simp; done) | (simp; omega)))))
    clear hq
  · go_wp2_with fail
    go_ret
    exact ⟨ret_bool (by rw [e0.out, H1.out]; rfl), by (repeat (first | exact Below.refl _ _ | assumption | (refine Below.alloc ?_ (by first | omega | (simp; done) | (simp; omega)) _) | (refine Below.setCell ?_ (by first | omega | (simp; done) | (simp; omega)) _) | (refine Below.drew ?_) | (refine Below.drewN ?_ _) | (refine Below.next (by assumption) ?_ (by first | omega | (simp; done) | (simp; omega)))))⟩
  have e2 : Hid (16 < n → decide (n ≤ 16) = false) := Lib.hid (fun h => decide_eq_false (by omega))
  by_cases h2 : n ≤ 16
  all_goals have H2 := Lib.hid h2
  · go_wp2_with fail
    go_ret
    exact ⟨ret_bool (by rw [e0.out, H1.out, decide_eq_true H2.out]; simp; first | done | omega | (rw [decide_eq_decide]; omega)), by (repeat (first | exact Below.refl _ _ | assumption | (refine Below.alloc ?_ (by first | omega | (simp; done) | (simp; omega)) _) | (refine Below.setCell ?_ (by first | omega | (simp; done) | (simp; omega)) _) | (refine Below.drew ?_) | (refine Below.drewN ?_ _) | (refine Below.next (by assumption) ?_ (by first | omega | (simp; done) | (simp; omega)))))⟩
  · go_wp2_with fail
    go_ret
    exact ⟨ret_bool (by rw [e0.out, H1.out, e2.out h2]; rfl), by (repeat (first | exact Below.refl _ _ | assumption | (refine Below.alloc ?_ (by first | omega | (simp; done) | (simp; omega)) _) | (refine Below.setCell ?_ (by first | omega | (simp; done) | (simp; omega)) _) | (refine Below.drew ?_) | (refine Below.drewN ?_ _) | (refine Below.next (by assumption) ?_ (by first | omega | (simp; done) | (simp; omega)))))⟩

set_option maxRecDepth 100000 in
theorem l1All_any (A : Option Addr) (c : Nat) (D : List Int) (lo hi : Int) (w : World) (hd : Mem w A (ints D)) (hl : D.length ≤ 1048576) : Calls Tryz.prog 69 #[.slice A D.length c, .int .i64 lo, .int .i64 hi] w fun e w' => e = .returned (.bool (D.all fun x => inR x lo hi)) ∧ w = w' := by
  go_enter Tryz.func69, Tryz.ntmps69
  go_wp2
  go_loop [8, 11] (fun _ i => ∃ k : Nat, k ≤ D.length ∧ i = .int .i64 k ∧ Hid ((D.take k).all (fun x => inR x lo hi) = true)) (fun _ i => D.length - (intOf i).toNat)
  case atStart => exact ⟨0, by omega, rfl, all_take_zero _ _⟩
  case round =>
    obtain ⟨k, hk, rfl, H⟩ := hrel
    by_cases hlt : k < D.length
    · obtain ⟨x, hx⟩ := some_of_lt hlt
      obtain ⟨b, off, rfl, h1⟩ := hd.int hx
      have HX := Lib.hid hx
      clear hx
      cases hh : inR x lo hi
      all_goals
        have HH := Lib.hid hh
        clear hh
        go_wp2_with (go_at_call 45; refine (l1In_any _ _ _ _).mono ?_; rintro e w' ⟨he, rfl⟩; rw [HH.out] at he; subst he)
      · go_ret
        exact ⟨ret_bool (by rw [all_no HX HH.out]), rfl⟩
      · go_round
        case rel => exact ⟨k + 1, by omega, by go_num, all_take_succ H HX HH.out⟩
        case measure => simp [intOf]; omega
    · go_wp2
      go_ret
      exact ⟨ret_bool (by rw [all_yes H (by omega)]), rfl⟩
set_option maxRecDepth 100000 in
theorem isDelay_any (x : Int) (w : World) : Calls Tryz.prog 29 #[.int .i64 x] w fun e w' => e = .returned (.bool (inR x 0 4)) ∧ w = w' := by
  go_enter Tryz.func29, Tryz.ntmps29
  go_wp2_with (go_at_call 43; refine (within_any _ _ _ _).mono ?_; rintro e w' ⟨rfl, rfl⟩)
  go_ret
  exact ⟨rfl, rfl⟩

set_option maxRecDepth 20000 in
theorem rpAsked_any (A : Option Addr) (c : Nat) (F : List Sp) (B : Option Addr) (d : Nat) (T : List Sp) (n : Int) (C : Option Addr) (f : Nat) (P : List Int) (E : Option Addr) (g : Nat) (D : List Int) (w : World) (hf : Mem w A (spots F)) (ht : Mem w B (spots T)) (hp : Mem w C (ints P)) (lf : F.length ≤ 1048576) (lt : T.length ≤ 1048576) (lp : P.length ≤ 1048576) (hfc : F.length ≤ c) (htc : T.length ≤ d) (hpc : P.length ≤ f) (hd : Mem w E (ints D)) (ld : D.length ≤ 1048576) : Calls Tryz.prog 39 #[.agg #[.slice A F.length c, .slice B T.length d, .int .i64 n, .slice C P.length f], .slice E D.length g] w fun e w' => e = .returned (.bool (dlOk F T n P D)) ∧ Below w.heap.size w w' := by
  have e0 : Hid (dlOk F T n P D = ((rpOk F T n P && decide (D.length = F.length)) && D.all fun x => inR x 0 4)) := Lib.hid rfl
  cases h1 : rpOk F T n P
  all_goals
    have H1 := Lib.hid h1
    clear h1
    go_enter Tryz.func39, Tryz.ntmps39
    go_wp2_with fail
    refine (rpGood_any A c F B d T n C f P _ (hf.below (by (repeat (first | exact Below.refl _ _ | assumption | (refine Below.alloc ?_ (by first | omega | (simp; done) | (simp; omega)) _) | (refine Below.setCell ?_ (by first | omega | (simp; done) | (simp; omega)) _) | (refine Below.drew ?_) | (refine Below.drewN ?_ _) | (refine Below.next (by assumption) ?_ (by first | omega | (simp; done) | (simp; omega))))))) (ht.below (by (repeat (first | exact Below.refl _ _ | assumption | (refine Below.alloc ?_ (by first | omega | (simp; done) | (simp; omega)) _) | (refine Below.setCell ?_ (by first | omega | (simp; done) | (simp; omega)) _) | (refine Below.drew ?_) | (refine Below.drewN ?_ _) | (refine Below.next (by assumption) ?_ (by first | omega | (simp; done) | (simp; omega))))))) (hp.below (by (repeat (first | exact Below.refl _ _ | assumption | (refine Below.alloc ?_ (by first | omega | (simp; done) | (simp; omega)) _) | (refine Below.setCell ?_ (by first | omega | (simp; done) | (simp; omega)) _) | (refine Below.drew ?_) | (refine Below.drewN ?_ _) | (refine Below.next (by assumption) ?_ (by first | omega | (simp; done) | (simp; omega))))))) lf lt lp hfc htc hpc).mono ?_
    rintro e w1 ⟨he, hq⟩
    rw [H1.out] at he
    subst he
    have m1_0 : w1.cell? ⟨w.heap.size, 0, none⟩ = some (.slice A F.length c) := (hq.cell (by first | omega | (simp; done) | (simp; omega))).trans (by simp [go_sem])
    have m1_1 : w1.cell? ⟨w.heap.size, 1, none⟩ = some (.slice B T.length d) := (hq.cell (by first | omega | (simp; done) | (simp; omega))).trans (by simp [go_sem])
    have m1_2 : w1.cell? ⟨w.heap.size, 2, none⟩ = some (.int .i64 n) := (hq.cell (by first | omega | (simp; done) | (simp; omega))).trans (by simp [go_sem])
    have m1_3 : w1.cell? ⟨w.heap.size, 3, none⟩ = some (.slice C P.length f) := (hq.cell (by first | omega | (simp; done) | (simp; omega))).trans (by simp [go_sem])
    have gz1 : w.heap.size < w1.heap.size := World.block_lt_of_cell? _ _ m1_0
    have hb1 : Below w.heap.size w w1 := by (repeat (first | exact Below.refl _ _ | assumption | (refine Below.alloc ?_ (by first | omega | (simp; done) | (simp; omega)) _) | (refine Below.setCell ?_ (by first | omega | (simp; done) | (simp; omega)) _) | (refine Below.drew ?_) | (refine Below.drewN ?_ _) | (refine Below.next (by assumption) ?_ (by first | omega | (simp; done) | (simp; omega)))))
    clear hq
  · go_wp2_with fail
    go_ret
    exact ⟨ret_bool (by rw [e0.out, H1.out]; rfl), by (repeat (first | exact Below.refl _ _ | assumption | (refine Below.alloc ?_ (by first | omega | (simp; done) | (simp; omega)) _) | (refine Below.setCell ?_ (by first | omega | (simp; done) | (simp; omega)) _) | (refine Below.drew ?_) | (refine Below.drewN ?_ _) | (refine Below.next (by assumption) ?_ (by first | omega | (simp; done) | (simp; omega)))))⟩
  by_cases h2 : D.length = F.length
  · have H2 := Lib.hid h2
    have hla := l1All_any E g D 0 4 w1 (hd.below hb1) ld
    rw [h2] at hla
    have HL := Lib.hid hla
    clear hla
    go_wp2_with fail
    refine HL.out.mono ?_
    rintro e w' ⟨rfl, rfl⟩
    go_wp2_with fail
    go_ret
    exact ⟨ret_bool (by rw [e0.out, H1.out, decide_eq_true H2.out]; simp), by (repeat (first | exact Below.refl _ _ | assumption | (refine Below.alloc ?_ (by first | omega | (simp; done) | (simp; omega)) _) | (refine Below.setCell ?_ (by first | omega | (simp; done) | (simp; omega)) _) | (refine Below.drew ?_) | (refine Below.drewN ?_ _) | (refine Below.next (by assumption) ?_ (by first | omega | (simp; done) | (simp; omega)))))⟩
  · go_wp2_with fail
    go_ret
    exact ⟨ret_bool (by rw [e0.out, H1.out, decide_eq_false h2]; rfl), by (repeat (first | exact Below.refl _ _ | assumption | (refine Below.alloc ?_ (by first | omega | (simp; done) | (simp; omega)) _) | (refine Below.setCell ?_ (by first | omega | (simp; done) | (simp; omega)) _) | (refine Below.drew ?_) | (refine Below.drewN ?_ _) | (refine Below.next (by assumption) ?_ (by first | omega | (simp; done) | (simp; omega)))))⟩

set_option maxRecDepth 100000 in
theorem areDelays_any (A : Option Addr) (c : Nat) (F : List Sp) (B : Option Addr) (d : Nat) (T : List Sp) (n : Int) (C : Option Addr) (f : Nat) (P : List Int) (E : Option Addr) (g : Nat) (D : List Int) (w : World) (hf : Mem w A (spots F)) (ht : Mem w B (spots T)) (hp : Mem w C (ints P)) (lf : F.length ≤ 1048576) (lt : T.length ≤ 1048576) (lp : P.length ≤ 1048576) (hfc : F.length ≤ c) (htc : T.length ≤ d) (hpc : P.length ≤ f) (hd : Mem w E (ints D)) (ld : D.length ≤ 1048576) : Calls Tryz.prog 36 #[.agg #[.slice A F.length c, .slice B T.length d, .int .i64 n, .slice C P.length f], .slice E D.length g] w fun e w' => e = .returned (.bool (dlOk F T n P D)) ∧ Below w.heap.size w w' := by
  have e0 : Hid (dlOk F T n P D = ((rpOk F T n P && decide (D.length = F.length)) && D.all fun x => inR x 0 4)) := Lib.hid rfl
  cases h1 : rpOk F T n P
  all_goals
    have H1 := Lib.hid h1
    clear h1
    go_enter Tryz.func36, Tryz.ntmps36
    go_wp2_with fail
    refine (isRepaired_any A c F B d T n C f P _ (hf.below (by (repeat (first | exact Below.refl _ _ | assumption | (refine Below.alloc ?_ (by first | omega | (simp; done) | (simp; omega)) _) | (refine Below.setCell ?_ (by first | omega | (simp; done) | (simp; omega)) _) | (refine Below.drew ?_) | (refine Below.drewN ?_ _) | (refine Below.next (by assumption) ?_ (by first | omega | (simp; done) | (simp; omega))))))) (ht.below (by (repeat (first | exact Below.refl _ _ | assumption | (refine Below.alloc ?_ (by first | omega | (simp; done) | (simp; omega)) _) | (refine Below.setCell ?_ (by first | omega | (simp; done) | (simp; omega)) _) | (refine Below.drew ?_) | (refine Below.drewN ?_ _) | (refine Below.next (by assumption) ?_ (by first | omega | (simp; done) | (simp; omega))))))) (hp.below (by (repeat (first | exact Below.refl _ _ | assumption | (refine Below.alloc ?_ (by first | omega | (simp; done) | (simp; omega)) _) | (refine Below.setCell ?_ (by first | omega | (simp; done) | (simp; omega)) _) | (refine Below.drew ?_) | (refine Below.drewN ?_ _) | (refine Below.next (by assumption) ?_ (by first | omega | (simp; done) | (simp; omega))))))) lf lt lp hfc htc hpc).mono ?_
    rintro e w1 ⟨he, hq⟩
    rw [H1.out] at he
    subst he
    have m1_0 : w1.cell? ⟨w.heap.size, 0, none⟩ = some (.slice A F.length c) := (hq.cell (by first | omega | (simp; done) | (simp; omega))).trans (by simp [go_sem])
    have m1_1 : w1.cell? ⟨w.heap.size, 1, none⟩ = some (.slice B T.length d) := (hq.cell (by first | omega | (simp; done) | (simp; omega))).trans (by simp [go_sem])
    have m1_2 : w1.cell? ⟨w.heap.size, 2, none⟩ = some (.int .i64 n) := (hq.cell (by first | omega | (simp; done) | (simp; omega))).trans (by simp [go_sem])
    have m1_3 : w1.cell? ⟨w.heap.size, 3, none⟩ = some (.slice C P.length f) := (hq.cell (by first | omega | (simp; done) | (simp; omega))).trans (by simp [go_sem])
    have gz1 : w.heap.size < w1.heap.size := World.block_lt_of_cell? _ _ m1_0
    have hb1 : Below w.heap.size w w1 := by (repeat (first | exact Below.refl _ _ | assumption | (refine Below.alloc ?_ (by first | omega | (simp; done) | (simp; omega)) _) | (refine Below.setCell ?_ (by first | omega | (simp; done) | (simp; omega)) _) | (refine Below.drew ?_) | (refine Below.drewN ?_ _) | (refine Below.next (by assumption) ?_ (by first | omega | (simp; done) | (simp; omega)))))
    clear hq
  · go_wp2_with fail
    go_ret
    exact ⟨ret_bool (by rw [e0.out, H1.out]; rfl), by (repeat (first | exact Below.refl _ _ | assumption | (refine Below.alloc ?_ (by first | omega | (simp; done) | (simp; omega)) _) | (refine Below.setCell ?_ (by first | omega | (simp; done) | (simp; omega)) _) | (refine Below.drew ?_) | (refine Below.drewN ?_ _) | (refine Below.next (by assumption) ?_ (by first | omega | (simp; done) | (simp; omega)))))⟩
  by_cases h2 : D.length = F.length
  case neg =>
    go_wp2_with fail
    go_ret
    exact ⟨ret_bool (by rw [e0.out, H1.out, decide_eq_false h2]; rfl), by (repeat (first | exact Below.refl _ _ | assumption | (refine Below.alloc ?_ (by first | omega | (simp; done) | (simp; omega)) _) | (refine Below.setCell ?_ (by first | omega | (simp; done) | (simp; omega)) _) | (refine Below.drew ?_) | (refine Below.drewN ?_ _) | (refine Below.next (by assumption) ?_ (by first | omega | (simp; done) | (simp; omega)))))⟩
  have H2 := Lib.hid h2
  have e1 : Hid (dlOk F T n P D = D.all fun x => inR x 0 4) := Lib.hid (by rw [e0.out, H1.out, decide_eq_true H2.out]; simp)
  have hd1 := hd.below hb1
  go_wp2_with fail
  go_loop [6, 20] (fun _ i => ∃ k : Nat, k ≤ D.length ∧ i = .int .i64 k ∧ Hid ((D.take k).all (fun x => inR x 0 4) = true)) (fun _ i => D.length - (intOf i).toNat)
  case atStart => exact ⟨0, by omega, rfl, all_take_zero _ _⟩
  case round =>
    obtain ⟨k, hk, rfl, H⟩ := hrel
    by_cases hlt : k < D.length
    · obtain ⟨x, hx⟩ := some_of_lt hlt
      obtain ⟨b, off, rfl, h3⟩ := hd1.int hx
      have HX := Lib.hid hx
      clear hx
      cases hh : inR x 0 4
      all_goals
        have HH := Lib.hid hh
        clear hh
        go_wp2_with (go_at_call 29; refine (isDelay_any _ _).mono ?_; rintro e w' ⟨he, rfl⟩; rw [HH.out] at he; subst he)
      · go_ret
        exact ⟨ret_bool (by rw [e1.out, all_no HX HH.out]), hb1⟩
      · go_round
        case rel => exact ⟨k + 1, by omega, by go_num, all_take_succ H HX HH.out⟩
        case measure => simp [intOf]; omega
    · go_wp2
      go_ret
      exact ⟨ret_bool (by rw [e1.out, all_yes H (by omega)]), hb1⟩

end Go.Proofs.YthehcjfljjfnmaaGreat
