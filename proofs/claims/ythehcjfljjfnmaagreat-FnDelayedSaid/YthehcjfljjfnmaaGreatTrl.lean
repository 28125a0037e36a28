/-
  Contracts: how long a repaired transition lasts.
-/
import Derived.Test.YthehcjfljjfnmaaGreatTr
namespace Go.Proofs.YthehcjfljjfnmaaGreat
open Go.RowKit Go.Sort

def mxTo (D : List Int) : Nat → Int
  | 0 => 0
  | k + 1 => max (mxTo D k) (D.getD k 0)
def rlV (F T : List Sp) (n : Int) (P D : List Int) : Int := if dlOk F T n P D then n + mxTo D D.length else 0
theorem mxTo_succ {D : List Int} {k : Nat} {x : Int} (h : D[k]? = some x) : mxTo D (k + 1) = max (mxTo D k) x := by
  rw [mxTo, List.getD_eq_getElem?_getD, h]; rfl
theorem inR_at {D : List Int} {k : Nat} {x lo hi : Int} (h : (D.all fun x => inR x lo hi) = true) (hx : D[k]? = some x) : lo ≤ x ∧ x ≤ hi :=
  inR_iff.1 (List.all_eq_true.1 h x (List.mem_of_getElem? hx))

set_option maxRecDepth 20000 in
set_option maxHeartbeats 1600000 in
theorem spec_RepairLasts_any (A : Option Addr) (c : Nat) (F : List Sp) (B : Option Addr) (d : Nat) (T : List Sp) (n : Int) (C : Option Addr) (f : Nat) (P : List Int) (E : Option Addr) (g : Nat) (D : List Int) (w : World) (hf : Mem w A (spots F)) (ht : Mem w B (spots T)) (hp : Mem w C (ints P)) (lf : F.length ≤ 1048576) (lt : T.length ≤ 1048576) (lp : P.length ≤ 1048576) (hfc : F.length ≤ c) (htc : T.length ≤ d) (hpc : P.length ≤ f) (hd : Mem w E (ints D)) (ld : D.length ≤ 1048576) : Calls Tryz.prog 19 #[.agg #[.slice A F.length c, .slice B T.length d, .int .i64 n, .slice C P.length f], .slice E D.length g] w fun e w' => e = .returned (.tuple #[.int .i64 (rlV F T n P D), .bool (dlOk F T n P D)]) ∧ Below w.heap.size w w' := by
  have e0 : Hid (rlV F T n P D = if dlOk F T n P D then n + mxTo D D.length else 0) := Lib.hid rfl
  cases h1 : dlOk F T n P D
  all_goals
    have H1 := Lib.hid h1
    clear h1
    go_enter Tryz.func19, Tryz.ntmps19
    go_wp2_with fail
    refine (rpAsked_any A c F B d T n C f P E g D _ (hf.below (by (repeat (first | exact Below.refl _ _ | assumption | (refine Below.alloc ?_ (by first | omega | (simp; done) | (simp; omega)) _) | (refine Below.setCell ?_ (by first | omega | (simp; done) | (simp; omega)) _) | (refine Below.drew ?_) | (refine Below.drewN ?_ _) | (refine Below.next (by assumption) ?_ (by first | omega | (simp; done) | (simp; omega))))))) (ht.below (by (repeat (first | exact Below.refl _ _ | assumption | (refine Below.alloc ?_ (by first | omega | (simp; done) | (simp; omega)) _) | (refine Below.setCell ?_ (by first | omega | (simp; done) | (simp; omega)) _) | (refine Below.drew ?_) | (refine Below.drewN ?_ _) | (refine Below.next (by assumption) ?_ (by first | omega | (simp; done) | (simp; omega))))))) (hp.below (by (repeat (first | exact Below.refl _ _ | assumption | (refine Below.alloc ?_ (by first | omega | (simp; done) | (simp; omega)) _) | (refine Below.setCell ?_ (by first | omega | (simp; done) | (simp; omega)) _) | (refine Below.drew ?_) | (refine Below.drewN ?_ _) | (refine Below.next (by assumption) ?_ (by first | omega | (simp; done) | (simp; omega))))))) lf lt lp hfc htc hpc (hd.below (by (repeat (first | exact Below.refl _ _ | assumption | (refine Below.alloc ?_ (by first | omega | (simp; done) | (simp; omega)) _) | (refine Below.setCell ?_ (by first | omega | (simp; done) | (simp; omega)) _) | (refine Below.drew ?_) | (refine Below.drewN ?_ _) | (refine Below.next (by assumption) ?_ (by first | omega | (simp; done) | (simp; omega))))))) ld).mono ?_
    rintro e w1 ⟨he, hq⟩
    rw [H1.out] at he
    subst he
    have m1_0 : w1.cell? ⟨w.heap.size, 0, none⟩ = some (.slice A F.length c) := (hq.cell (by first | omega | (simp; done) | (simp; omega))).trans (by simp [go_sem])
    have m1_1 : w1.cell? ⟨w.heap.size, 1, none⟩ = some (.slice B T.length d) := (hq.cell (by first | omega | (simp; done) | (simp; omega))).trans (by simp [go_sem])
    have m1_2 : w1.cell? ⟨w.heap.size, 2, none⟩ = some (.int .i64 n) := (hq.cell (by first | omega | (simp; done) | (simp; omega))).trans (by simp [go_sem])
    have m1_3 : w1.cell? ⟨w.heap.size, 3, none⟩ = some (.slice C P.length f) := (hq.cell (by first | omega | (simp; done) | (simp; omega))).trans (by simp [go_sem])
    have gz1 : w.heap.size < w1.heap.size := World.block_lt_of_cell? _ _ m1_0
    have hb1 : Below w.heap.size w w1 := by (repeat (first | exact Below.refl _ _ | assumption | (refine Below.alloc ?_ (by first | omega | (simp; done) | (simp; omega)) _) | (refine Below.setCell ?_ (by first | omega | (simp; done) | (simp; omega)) _) | (refine Below.drew ?_) | (refine Below.drewN ?_ _) | (refine Below.next (by assumption) ?_ (by first | omega | (simp; done) | (simp; omega)))))
    clear hq
  · go_wp2_with fail
    go_ret2
    exact ⟨ret_pair (by rw [e0.out, H1.out]; rfl) rfl, by (repeat (first | exact Below.refl _ _ | assumption | (refine Below.alloc ?_ (by first | omega | (simp; done) | (simp; omega)) _) | (refine Below.setCell ?_ (by first | omega | (simp; done) | (simp; omega)) _) | (refine Below.drew ?_) | (refine Below.drewN ?_ _) | (refine Below.next (by assumption) ?_ (by first | omega | (simp; done) | (simp; omega)))))⟩
  have HD := Lib.hid (dlOk_iff.1 H1.out)
  obtain ⟨hn1, hn2⟩ := (trOk_iff.1 (rpOk_iff.1 HD.out.1).1).2.2.2.1
  have hd1 := hd.below hb1
  go_wp2_with fail
  go_loop [6, 8, 15] (fun u _ i => ∃ (k : Nat) (x : Int), k ≤ D.length ∧ i = .int .i64 k ∧ u = .int .i64 x ∧ 0 ≤ x ∧ x ≤ 4 ∧ Hid (mxTo D k = x)) (fun _ _ i => D.length - (intOf i).toNat)
  case atStart => exact ⟨0, 0, by omega, rfl, rfl, by omega, by omega, Lib.hid rfl⟩
  case round =>
    obtain ⟨k, x, hk, rfl, rfl, hx0, hx1, H⟩ := hrel
    by_cases hlt : k < D.length
    · obtain ⟨y, hy⟩ := some_of_lt hlt
      obtain ⟨b, off, rfl, h3⟩ := hd1.int hy
      have HY := Lib.hid (mxTo_succ hy)
      have hr := inR_at HD.out.2.2 hy
      clear hy
      go_wp2_with ((go_at_call 49; refine (l1Most_any _ _ _).mono ?_; rintro e w' ⟨rfl, rfl⟩))
      go_round
      case rel => exact ⟨k + 1, max x y, by omega, by go_num, by first | rfl | (simp; omega), by omega, by omega, Lib.hid (by rw [HY.out, H.out])⟩
      case measure => simp [intOf]; omega
    · have e2 : k = D.length := by omega
      subst e2
      go_wp2
      go_ret2
      exact ⟨ret_pair (by rw [e0.out, H1.out, H.out]; first | rfl | simp) rfl, hb1⟩

set_option maxRecDepth 20000 in
set_option maxHeartbeats 1600000 in
theorem impl_RepairLasts_any (A : Option Addr) (c : Nat) (F : List Sp) (B : Option Addr) (d : Nat) (T : List Sp) (n : Int) (C : Option Addr) (f : Nat) (P : List Int) (E : Option Addr) (g : Nat) (D : List Int) (w : World) (hf : Mem w A (spots F)) (ht : Mem w B (spots T)) (hp : Mem w C (ints P)) (lf : F.length ≤ 1048576) (lt : T.length ≤ 1048576) (lp : P.length ≤ 1048576) (hfc : F.length ≤ c) (htc : T.length ≤ d) (hpc : P.length ≤ f) (hd : Mem w E (ints D)) (ld : D.length ≤ 1048576) : Calls Tryz.prog 18 #[.agg #[.slice A F.length c, .slice B T.length d, .int .i64 n, .slice C P.length f], .slice E D.length g] w fun e w' => e = .returned (.tuple #[.int .i64 (rlV F T n P D), .bool (dlOk F T n P D)]) ∧ Below w.heap.size w w' := by
  have e0 : Hid (rlV F T n P D = if dlOk F T n P D then n + mxTo D D.length else 0) := Lib.hid rfl
  cases h1 : dlOk F T n P D
  all_goals
    have H1 := Lib.hid h1
    clear h1
    go_enter Tryz.func18, Tryz.ntmps18
    go_wp2_with fail
    refine (areDelays_any A c F B d T n C f P E g D _ (hf.below (by (repeat (first | exact Below.refl _ _ | assumption | (refine Below.alloc ?_ (by first | omega | (simp; done) | (simp; omega)) _) | (refine Below.setCell ?_ (by first | omega | (simp; done) | (simp; omega)) _) | (refine Below.drew ?_) | (refine Below.drewN ?_ _) | (refine Below.next (by assumption) ?_ (by first | omega | (simp; done) | (simp; omega))))))) (ht.below (by (repeat (first | exact Below.refl _ _ | assumption | (refine Below.alloc ?_ (by first | omega | (simp; done) | (simp; omega)) _) | (refine Below.setCell ?_ (by first | omega | (simp; done) | (simp; omega)) _) | (refine Below.drew ?_) | (refine Below.drewN ?_ _) | (refine Below.next (by assumption) ?_ (by first | omega | (simp; done) | (simp; omega))))))) (hp.below (by (repeat (first | exact Below.refl _ _ | assumption | (refine Below.alloc ?_ (by first | omega | (simp; done) | (simp; omega)) _) | (refine Below.setCell ?_ (by first | omega | (simp; done) | (simp; omega)) _) | (refine Below.drew ?_) | (refine Below.drewN ?_ _) | (refine Below.next (by assumption) ?_ (by first | omega | (simp; done) | (simp; omega))))))) lf lt lp hfc htc hpc (hd.below (by (repeat (first | exact Below.refl _ _ | assumption | (refine Below.alloc ?_ (by first | omega | (simp; done) | (simp; omega)) _) | (refine Below.setCell ?_ (by first | omega | (simp; done) | (simp; omega)) _) | (refine Below.drew ?_) | (refine Below.drewN ?_ _) | (refine Below.next (by assumption) ?_ (by first | omega | (simp; done) | (simp; omega))))))) ld).mono ?_
    rintro e w1 ⟨he, hq⟩
    rw [H1.out] at he
    subst he
    have m1_0 : w1.cell? ⟨w.heap.size, 0, none⟩ = some (.slice A F.length c) := (hq.cell (by first | omega | (simp; done) | (simp; omega))).trans (by simp [go_sem])
    have m1_1 : w1.cell? ⟨w.heap.size, 1, none⟩ = some (.slice B T.length d) := (hq.cell (by first | omega | (simp; done) | (simp; omega))).trans (by simp [go_sem])
    have m1_2 : w1.cell? ⟨w.heap.size, 2, none⟩ = some (.int .i64 n) := (hq.cell (by first | omega | (simp; done) | (simp; omega))).trans (by simp [go_sem])
    have m1_3 : w1.cell? ⟨w.heap.size, 3, none⟩ = some (.slice C P.length f) := (hq.cell (by first | omega | (simp; done) | (simp; omega))).trans (by simp [go_sem])
    have gz1 : w.heap.size < w1.heap.size := World.block_lt_of_cell? _ _ m1_0
    have hb1 : Below w.heap.size w w1 := by (repeat (first | exact Below.refl _ _ | assumption | (refine Below.alloc ?_ (by first | omega | (simp; done) | (simp; omega)) _) | (refine Below.setCell ?_ (by first | omega | (simp; done) | (simp; omega)) _) | (refine Below.drew ?_) | (refine Below.drewN ?_ _) | (refine Below.next (by assumption) ?_ (by first | omega | (simp; done) | (simp; omega)))))
    clear hq
  · go_wp2_with fail
    go_ret2
    exact ⟨ret_pair (by rw [e0.out, H1.out]; rfl) rfl, by (repeat (first | exact Below.refl _ _ | assumption | (refine Below.alloc ?_ (by first | omega | (simp; done) | (simp; omega)) _) | (refine Below.setCell ?_ (by first | omega | (simp; done) | (simp; omega)) _) | (refine Below.drew ?_) | (refine Below.drewN ?_ _) | (refine Below.next (by assumption) ?_ (by first | omega | (simp; done) | (simp; omega)))))⟩
  have HD := Lib.hid (dlOk_iff.1 H1.out)
  obtain ⟨hn1, hn2⟩ := (trOk_iff.1 (rpOk_iff.1 HD.out.1).1).2.2.2.1
  have hd1 := hd.below hb1
  go_wp2_with fail
  go_loop [6, 8, 15] (fun u _ i => ∃ (k : Nat) (x : Int), k ≤ D.length ∧ i = .int .i64 k ∧ u = .int .i64 x ∧ 0 ≤ x ∧ x ≤ 4 ∧ Hid (mxTo D k = x)) (fun _ _ i => D.length - (intOf i).toNat)
  case atStart => exact ⟨0, 0, by omega, rfl, rfl, by omega, by omega, Lib.hid rfl⟩
  case round =>
    obtain ⟨k, x, hk, rfl, rfl, hx0, hx1, H⟩ := hrel
    by_cases hlt : k < D.length
    · obtain ⟨y, hy⟩ := some_of_lt hlt
      obtain ⟨b, off, rfl, h3⟩ := hd1.int hy
      have HY := Lib.hid (mxTo_succ hy)
      have hr := inR_at HD.out.2.2 hy
      clear hy
      go_wp2_with (fail)
      go_round
      case rel => exact ⟨k + 1, max x y, by omega, by go_num, by first | rfl | (simp; omega), by omega, by omega, Lib.hid (by rw [HY.out, H.out])⟩
      case measure => simp [intOf]; omega
    · have e2 : k = D.length := by omega
      subst e2
      go_wp2
      go_ret2
      exact ⟨ret_pair (by rw [e0.out, H1.out, H.out]; first | rfl | simp) rfl, hb1⟩

end Go.Proofs.YthehcjfljjfnmaaGreat
