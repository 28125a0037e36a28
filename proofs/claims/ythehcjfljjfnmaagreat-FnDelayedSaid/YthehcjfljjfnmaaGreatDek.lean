/-
  Contracts: IsRepair, CloseDelayed.
-/
import Derived.Test.YthehcjfljjfnmaaGreatDej
namespace Go.Proofs.YthehcjfljjfnmaaGreat
open Go.RowKit Go.Sort Go.Lib

set_option maxRecDepth 100000 in
theorem apDistance_any (n : Int) (w : World) : Calls Tryz.prog 40 #[.int .i64 n] w fun e w' => e = .returned (.bool (inR n 0 80)) ∧ w = w' := by
  go_enter Tryz.func40, Tryz.ntmps40
  go_wp2_with (go_at_call 45; refine (l1In_any _ _ _ _).mono ?_; rintro e w' ⟨rfl, rfl⟩)
  go_ret
  exact ⟨rfl, rfl⟩
set_option maxRecDepth 100000 in
theorem isLeast_any (n : Int) (w : World) : Calls Tryz.prog 37 #[.int .i64 n] w fun e w' => e = .returned (.bool (inR n 0 80)) ∧ w = w' := by
  go_enter Tryz.func37, Tryz.ntmps37
  go_wp2_with (go_at_call 43; refine (within_any _ _ _ _).mono ?_; rintro e w' ⟨rfl, rfl⟩)
  go_ret
  exact ⟨rfl, rfl⟩
def irOk (F T : List Sp) (n : Int) (P D : List Int) (L : Int) : Bool := dlOk F T n P D && inR L 0 80
def irV (F T : List Sp) (n : Int) (P D : List Int) (L : Int) : Bool := irOk F T n P D L && decide ((clV F T n P D L).length = 0)
def cpV (F T : List Sp) (n : Int) (P D : List Int) (L : Int) : List (Nat × Nat) := if irOk F T n P D L then clV F T n P D L else []
theorem ret_bb {a b c d : Bool} (h : a = b) (h2 : c = d) : Ending.returned (.tuple #[.bool a, .bool c]) = .returned (.tuple #[.bool b, .bool d]) := by rw [h, h2]
/-- A call hands back pairs in memory of its own, and a bool. -/
def RetPairsB (w : World) (V : List (Nat × Nat)) (ok : Bool) (e : Ending) (w' : World) : Prop :=
  ∃ A' c' vals, e = .returned (.tuple #[.slice A' V.length c', .bool ok]) ∧ w'.ownsRow w.heap.size 32 1 (.slice A' V.length c') V.length vals ∧ PrOk w' w.heap.size (.slice A' V.length c') vals V ∧ Below w.heap.size w w'

set_option maxRecDepth 100000 in
set_option maxHeartbeats 3200000 in
theorem spec_IsRepair_any (A : Option Addr) (c : Nat) (F : List Sp) (B : Option Addr) (d : Nat) (T : List Sp) (n : Int) (C : Option Addr) (f : Nat) (P : List Int) (E : Option Addr) (g : Nat) (D : List Int) (L : Int) (w : World) (hf : Mem w A (spots F)) (ht : Mem w B (spots T)) (hp : Mem w C (ints P)) (lf : F.length ≤ 1048576) (lt : T.length ≤ 1048576) (lp : P.length ≤ 1048576) (hfc : F.length ≤ c) (htc : T.length ≤ d) (hpc : P.length ≤ f) (hd : Mem w E (ints D)) (ld : D.length ≤ 1048576) (hdc : D.length ≤ g) : Calls Tryz.prog 9 #[.agg #[.slice A F.length c, .slice B T.length d, .int .i64 n, .slice C P.length f], .slice E D.length g, .int .i64 L] w fun e w' => e = .returned (.tuple #[.bool (irV F T n P D L), .bool (irOk F T n P D L)]) ∧ Below w.heap.size w w' := by
  have e0 : Hid (irOk F T n P D L = (dlOk F T n P D && inR L 0 80)) := Lib.hid rfl
  have e1 : Hid (irOk F T n P D L = false → irV F T n P D L = false) := Lib.hid (fun h => by simp [irV, h])
  have e3 : Hid (irOk F T n P D L = true → irV F T n P D L = decide ((clV F T n P D L).length = 0)) := Lib.hid (fun h => by simp [irV, h])
  cases h1 : dlOk F T n P D
  all_goals
    have H1 := Lib.hid h1
    clear h1
    go_enter Tryz.func9, Tryz.ntmps9
    go_wp2_with fail
    refine (rpAsked_any A c F B d T n C f P E g D _ (hf.below (by (repeat (first | exact Below.refl _ _ | assumption | (refine Below.alloc ?_ (by first | omega | (simp; done) | (simp; omega)) _) | (refine Below.setCell ?_ (by first | omega | (simp; done) | (simp; omega)) _) | (refine Below.drew ?_) | (refine Below.drewN ?_ _) | (refine Below.next (by assumption) ?_ (by first | omega | (simp; done) | (simp; omega))))))) (ht.below (by (repeat (first | exact Below.refl _ _ | assumption | (refine Below.alloc ?_ (by first | omega | (simp; done) | (simp; omega)) _) | (refine Below.setCell ?_ (by first | omega | (simp; done) | (simp; omega)) _) | (refine Below.drew ?_) | (refine Below.drewN ?_ _) | (refine Below.next (by assumption) ?_ (by first | omega | (simp; done) | (simp; omega))))))) (hp.below (by (repeat (first | exact Below.refl _ _ | assumption | (refine Below.alloc ?_ (by first | omega | (simp; done) | (simp; omega)) _) | (refine Below.setCell ?_ (by first | omega | (simp; done) | (simp; omega)) _) | (refine Below.drew ?_) | (refine Below.drewN ?_ _) | (refine Below.next (by assumption) ?_ (by first | omega | (simp; done) | (simp; omega))))))) lf lt lp hfc htc hpc (hd.below (by (repeat (first | exact Below.refl _ _ | assumption | (refine Below.alloc ?_ (by first | omega | (simp; done) | (simp; omega)) _) | (refine Below.setCell ?_ (by first | omega | (simp; done) | (simp; omega)) _) | (refine Below.drew ?_) | (refine Below.drewN ?_ _) | (refine Below.next (by assumption) ?_ (by first | omega | (simp; done) | (simp; omega))))))) ld).mono ?_
    rintro e w1 ⟨he, hq⟩
    rw [H1.out] at he
    subst he
    have m1_0 : w1.cell? ⟨w.heap.size, 0, none⟩ = some (.slice A F.length c) := (hq.cell (by first | omega | (simp; done) | (simp; omega))).trans (by simp [go_sem])
    have m1_1 : w1.cell? ⟨w.heap.size, 1, none⟩ = some (.slice B T.length d) := (hq.cell (by first | omega | (simp; done) | (simp; omega))).trans (by simp [go_sem])
    have m1_2 : w1.cell? ⟨w.heap.size, 2, none⟩ = some (.int .i64 n) := (hq.cell (by first | omega | (simp; done) | (simp; omega))).trans (by simp [go_sem])
    have m1_3 : w1.cell? ⟨w.heap.size, 3, none⟩ = some (.slice C P.length f) := (hq.cell (by first | omega | (simp; done) | (simp; omega))).trans (by simp [go_sem])
    have gz1 : w.heap.size < w1.heap.size := World.block_lt_of_cell? _ _ m1_0
    have hb1 : Below w.heap.size w w1 := by (repeat (first | exact Below.refl _ _ | assumption | (refine Below.alloc ?_ (by first | omega | (simp; done) | (simp; omega)) _) | (refine Below.setCell ?_ (by first | omega | (simp; done) | (simp; omega)) _) | (refine Below.drew ?_) | (refine Below.drewN ?_ _) | (refine Below.next (by assumption) ?_ (by first | omega | (simp; done) | (simp; omega)))))
    clear hq
  · go_wp2_with fail
    go_ret2
    exact ⟨ret_bb (by rw [e1.out (by rw [e0.out, H1.out]; rfl)]) (by rw [e0.out, H1.out]; rfl), by (repeat (first | exact Below.refl _ _ | assumption | (refine Below.alloc ?_ (by first | omega | (simp; done) | (simp; omega)) _) | (refine Below.setCell ?_ (by first | omega | (simp; done) | (simp; omega)) _) | (refine Below.drew ?_) | (refine Below.drewN ?_ _) | (refine Below.next (by assumption) ?_ (by first | omega | (simp; done) | (simp; omega)))))⟩
  cases h2 : inR L 0 80
  all_goals
    have H2 := Lib.hid h2
    clear h2
    go_wp2_with (first | (go_at_call 40; refine (apDistance_any _ _).mono ?_; rintro e w' ⟨he, rfl⟩; rw [H2.out] at he; subst he) | fail)
  · go_ret2
    exact ⟨ret_bb (by rw [e1.out (by rw [e0.out, H1.out, H2.out]; rfl)]) (by rw [e0.out, H1.out, H2.out]; rfl), by (repeat (first | exact Below.refl _ _ | assumption | (refine Below.alloc ?_ (by first | omega | (simp; done) | (simp; omega)) _) | (refine Below.setCell ?_ (by first | omega | (simp; done) | (simp; omega)) _) | (refine Below.drew ?_) | (refine Below.drewN ?_ _) | (refine Below.next (by assumption) ?_ (by first | omega | (simp; done) | (simp; omega)))))⟩
  have HOK := Lib.hid (show irOk F T n P D L = true by rw [e0.out, H1.out, H2.out]; rfl)
  obtain ⟨hL0, hL1⟩ := inR_iff.1 H2.out
  have hp6 : P.length ≤ 6 := by
    have h1 := dlOk_iff.1 H1.out
    have h2 := rpOk_iff.1 h1.1
    have h3 := plOk_iff.1 (trOk_iff.1 h2.1).2.2.2.2
    omega
  refine (rpClose_any A c F B d T n C f P E g D L _ (hf.below (by (repeat (first | exact Below.refl _ _ | assumption | (refine Below.alloc ?_ (by first | omega | (simp; done) | (simp; omega)) _) | (refine Below.setCell ?_ (by first | omega | (simp; done) | (simp; omega)) _) | (refine Below.drew ?_) | (refine Below.drewN ?_ _) | (refine Below.next (by assumption) ?_ (by first | omega | (simp; done) | (simp; omega))))))) (ht.below (by (repeat (first | exact Below.refl _ _ | assumption | (refine Below.alloc ?_ (by first | omega | (simp; done) | (simp; omega)) _) | (refine Below.setCell ?_ (by first | omega | (simp; done) | (simp; omega)) _) | (refine Below.drew ?_) | (refine Below.drewN ?_ _) | (refine Below.next (by assumption) ?_ (by first | omega | (simp; done) | (simp; omega))))))) (hp.below (by (repeat (first | exact Below.refl _ _ | assumption | (refine Below.alloc ?_ (by first | omega | (simp; done) | (simp; omega)) _) | (refine Below.setCell ?_ (by first | omega | (simp; done) | (simp; omega)) _) | (refine Below.drew ?_) | (refine Below.drewN ?_ _) | (refine Below.next (by assumption) ?_ (by first | omega | (simp; done) | (simp; omega))))))) lf lt lp hfc htc hpc (hd.below (by (repeat (first | exact Below.refl _ _ | assumption | (refine Below.alloc ?_ (by first | omega | (simp; done) | (simp; omega)) _) | (refine Below.setCell ?_ (by first | omega | (simp; done) | (simp; omega)) _) | (refine Below.drew ?_) | (refine Below.drewN ?_ _) | (refine Below.next (by assumption) ?_ (by first | omega | (simp; done) | (simp; omega))))))) ld H1.out hL0 hL1).mono ?_
  rintro e w3 ⟨A3, c3, vals, rfl, ho3, hp3, hq3⟩
  clear ho3 hp3 m1_0 m1_1 m1_2 m1_3
  have hle : (clV F T n P D L).length ≤ 36 := Nat.le_trans (clTo_len _ _ _ hp6 _) (by omega)
  generalize (clV F T n P D L).length = N at *
  go_wp2_with fail
  go_ret2
  exact ⟨ret_bb (by rw [e3.out HOK.out]; by_cases hN : N = 0 <;> simp [hN]) HOK.out.symm, by (repeat (first | exact Below.refl _ _ | assumption | (refine Below.alloc ?_ (by first | omega | (simp; done) | (simp; omega)) _) | (refine Below.setCell ?_ (by first | omega | (simp; done) | (simp; omega)) _) | (refine Below.drew ?_) | (refine Below.drewN ?_ _) | (refine Below.next (by assumption) ?_ (by first | omega | (simp; done) | (simp; omega)))))⟩


set_option maxRecDepth 100000 in
set_option maxHeartbeats 3200000 in
theorem impl_IsRepair_any (A : Option Addr) (c : Nat) (F : List Sp) (B : Option Addr) (d : Nat) (T : List Sp) (n : Int) (C : Option Addr) (f : Nat) (P : List Int) (E : Option Addr) (g : Nat) (D : List Int) (L : Int) (w : World) (hf : Mem w A (spots F)) (ht : Mem w B (spots T)) (hp : Mem w C (ints P)) (lf : F.length ≤ 1048576) (lt : T.length ≤ 1048576) (lp : P.length ≤ 1048576) (hfc : F.length ≤ c) (htc : T.length ≤ d) (hpc : P.length ≤ f) (hd : Mem w E (ints D)) (ld : D.length ≤ 1048576) (hdc : D.length ≤ g) : Calls Tryz.prog 8 #[.agg #[.slice A F.length c, .slice B T.length d, .int .i64 n, .slice C P.length f], .slice E D.length g, .int .i64 L] w fun e w' => e = .returned (.tuple #[.bool (irV F T n P D L), .bool (irOk F T n P D L)]) ∧ Below w.heap.size w w' := by
  have e0 : Hid (irOk F T n P D L = (dlOk F T n P D && inR L 0 80)) := Lib.hid rfl
  have e1 : Hid (irOk F T n P D L = false → irV F T n P D L = false) := Lib.hid (fun h => by simp [irV, h])
  have e3 : Hid (irOk F T n P D L = true → irV F T n P D L = decide ((clV F T n P D L).length = 0)) := Lib.hid (fun h => by simp [irV, h])
  cases h1 : dlOk F T n P D
  all_goals
    have H1 := Lib.hid h1
    clear h1
    go_enter Tryz.func8, Tryz.ntmps8
    go_wp2_with fail
    refine (areDelays_any A c F B d T n C f P E g D _ (hf.below (by (repeat (first | exact Below.refl _ _ | assumption | (refine Below.alloc ?_ (by first | omega | (simp; done) | (simp; omega)) _) | (refine Below.setCell ?_ (by first | omega | (simp; done) | (simp; omega)) _) | (refine Below.drew ?_) | (refine Below.drewN ?_ _) | (refine Below.next (by assumption) ?_ (by first | omega | (simp; done) | (simp; omega))))))) (ht.below (by (repeat (first | exact Below.refl _ _ | assumption | (refine Below.alloc ?_ (by first | omega | (simp; done) | (simp; omega)) _) | (refine Below.setCell ?_ (by first | omega | (simp; done) | (simp; omega)) _) | (refine Below.drew ?_) | (refine Below.drewN ?_ _) | (refine Below.next (by assumption) ?_ (by first | omega | (simp; done) | (simp; omega))))))) (hp.below (by (repeat (first | exact Below.refl _ _ | assumption | (refine Below.alloc ?_ (by first | omega | (simp; done) | (simp; omega)) _) | (refine Below.setCell ?_ (by first | omega | (simp; done) | (simp; omega)) _) | (refine Below.drew ?_) | (refine Below.drewN ?_ _) | (refine Below.next (by assumption) ?_ (by first | omega | (simp; done) | (simp; omega))))))) lf lt lp hfc htc hpc (hd.below (by (repeat (first | exact Below.refl _ _ | assumption | (refine Below.alloc ?_ (by first | omega | (simp; done) | (simp; omega)) _) | (refine Below.setCell ?_ (by first | omega | (simp; done) | (simp; omega)) _) | (refine Below.drew ?_) | (refine Below.drewN ?_ _) | (refine Below.next (by assumption) ?_ (by first | omega | (simp; done) | (simp; omega))))))) ld).mono ?_
    rintro e w1 ⟨he, hq⟩
    rw [H1.out] at he
    subst he
    have m1_0 : w1.cell? ⟨w.heap.size, 0, none⟩ = some (.slice A F.length c) := (hq.cell (by first | omega | (simp; done) | (simp; omega))).trans (by simp [go_sem])
    have m1_1 : w1.cell? ⟨w.heap.size, 1, none⟩ = some (.slice B T.length d) := (hq.cell (by first | omega | (simp; done) | (simp; omega))).trans (by simp [go_sem])
    have m1_2 : w1.cell? ⟨w.heap.size, 2, none⟩ = some (.int .i64 n) := (hq.cell (by first | omega | (simp; done) | (simp; omega))).trans (by simp [go_sem])
    have m1_3 : w1.cell? ⟨w.heap.size, 3, none⟩ = some (.slice C P.length f) := (hq.cell (by first | omega | (simp; done) | (simp; omega))).trans (by simp [go_sem])
    have gz1 : w.heap.size < w1.heap.size := World.block_lt_of_cell? _ _ m1_0
    have hb1 : Below w.heap.size w w1 := by (repeat (first | exact Below.refl _ _ | assumption | (refine Below.alloc ?_ (by first | omega | (simp; done) | (simp; omega)) _) | (refine Below.setCell ?_ (by first | omega | (simp; done) | (simp; omega)) _) | (refine Below.drew ?_) | (refine Below.drewN ?_ _) | (refine Below.next (by assumption) ?_ (by first | omega | (simp; done) | (simp; omega)))))
    clear hq
  · go_wp2_with fail
    go_ret2
    exact ⟨ret_bb (by rw [e1.out (by rw [e0.out, H1.out]; rfl)]) (by rw [e0.out, H1.out]; rfl), by (repeat (first | exact Below.refl _ _ | assumption | (refine Below.alloc ?_ (by first | omega | (simp; done) | (simp; omega)) _) | (refine Below.setCell ?_ (by first | omega | (simp; done) | (simp; omega)) _) | (refine Below.drew ?_) | (refine Below.drewN ?_ _) | (refine Below.next (by assumption) ?_ (by first | omega | (simp; done) | (simp; omega)))))⟩
  cases h2 : inR L 0 80
  all_goals
    have H2 := Lib.hid h2
    clear h2
    go_wp2_with (first | (go_at_call 37; refine (isLeast_any _ _).mono ?_; rintro e w' ⟨he, rfl⟩; rw [H2.out] at he; subst he) | fail)
  · go_ret2
    exact ⟨ret_bb (by rw [e1.out (by rw [e0.out, H1.out, H2.out]; rfl)]) (by rw [e0.out, H1.out, H2.out]; rfl), by (repeat (first | exact Below.refl _ _ | assumption | (refine Below.alloc ?_ (by first | omega | (simp; done) | (simp; omega)) _) | (refine Below.setCell ?_ (by first | omega | (simp; done) | (simp; omega)) _) | (refine Below.drew ?_) | (refine Below.drewN ?_ _) | (refine Below.next (by assumption) ?_ (by first | omega | (simp; done) | (simp; omega)))))⟩
  have HOK := Lib.hid (show irOk F T n P D L = true by rw [e0.out, H1.out, H2.out]; rfl)
  obtain ⟨hL0, hL1⟩ := inR_iff.1 H2.out
  have hp6 : P.length ≤ 6 := by
    have h1 := dlOk_iff.1 H1.out
    have h2 := rpOk_iff.1 h1.1
    have h3 := plOk_iff.1 (trOk_iff.1 h2.1).2.2.2.2
    omega
  refine (delayedPairs_any A c F B d T n C f P E g D L _ (hf.below (by (repeat (first | exact Below.refl _ _ | assumption | (refine Below.alloc ?_ (by first | omega | (simp; done) | (simp; omega)) _) | (refine Below.setCell ?_ (by first | omega | (simp; done) | (simp; omega)) _) | (refine Below.drew ?_) | (refine Below.drewN ?_ _) | (refine Below.next (by assumption) ?_ (by first | omega | (simp; done) | (simp; omega))))))) (ht.below (by (repeat (first | exact Below.refl _ _ | assumption | (refine Below.alloc ?_ (by first | omega | (simp; done) | (simp; omega)) _) | (refine Below.setCell ?_ (by first | omega | (simp; done) | (simp; omega)) _) | (refine Below.drew ?_) | (refine Below.drewN ?_ _) | (refine Below.next (by assumption) ?_ (by first | omega | (simp; done) | (simp; omega))))))) (hp.below (by (repeat (first | exact Below.refl _ _ | assumption | (refine Below.alloc ?_ (by first | omega | (simp; done) | (simp; omega)) _) | (refine Below.setCell ?_ (by first | omega | (simp; done) | (simp; omega)) _) | (refine Below.drew ?_) | (refine Below.drewN ?_ _) | (refine Below.next (by assumption) ?_ (by first | omega | (simp; done) | (simp; omega))))))) lf lt lp hfc htc hpc (hd.below (by (repeat (first | exact Below.refl _ _ | assumption | (refine Below.alloc ?_ (by first | omega | (simp; done) | (simp; omega)) _) | (refine Below.setCell ?_ (by first | omega | (simp; done) | (simp; omega)) _) | (refine Below.drew ?_) | (refine Below.drewN ?_ _) | (refine Below.next (by assumption) ?_ (by first | omega | (simp; done) | (simp; omega))))))) ld H1.out hL0 hL1).mono ?_
  rintro e w3 ⟨A3, c3, vals, rfl, ho3, hp3, hq3⟩
  clear ho3 hp3 m1_0 m1_1 m1_2 m1_3
  have hle : (clV F T n P D L).length ≤ 36 := Nat.le_trans (clTo_len _ _ _ hp6 _) (by omega)
  generalize (clV F T n P D L).length = N at *
  go_wp2_with fail
  go_ret2
  exact ⟨ret_bb (by rw [e3.out HOK.out]; by_cases hN : N = 0 <;> simp [hN]) HOK.out.symm, by (repeat (first | exact Below.refl _ _ | assumption | (refine Below.alloc ?_ (by first | omega | (simp; done) | (simp; omega)) _) | (refine Below.setCell ?_ (by first | omega | (simp; done) | (simp; omega)) _) | (refine Below.drew ?_) | (refine Below.drewN ?_ _) | (refine Below.next (by assumption) ?_ (by first | omega | (simp; done) | (simp; omega)))))⟩


set_option maxRecDepth 100000 in
set_option maxHeartbeats 3200000 in
theorem spec_CloseDelayed_any (A : Option Addr) (c : Nat) (F : List Sp) (B : Option Addr) (d : Nat) (T : List Sp) (n : Int) (C : Option Addr) (f : Nat) (P : List Int) (E : Option Addr) (g : Nat) (D : List Int) (L : Int) (w : World) (hf : Mem w A (spots F)) (ht : Mem w B (spots T)) (hp : Mem w C (ints P)) (lf : F.length ≤ 1048576) (lt : T.length ≤ 1048576) (lp : P.length ≤ 1048576) (hfc : F.length ≤ c) (htc : T.length ≤ d) (hpc : P.length ≤ f) (hd : Mem w E (ints D)) (ld : D.length ≤ 1048576) (hdc : D.length ≤ g) : Calls Tryz.prog 11 #[.agg #[.slice A F.length c, .slice B T.length d, .int .i64 n, .slice C P.length f], .slice E D.length g, .int .i64 L] w (RetPairsB w (cpV F T n P D L) (irOk F T n P D L)) := by
  have e0 : Hid (irOk F T n P D L = (dlOk F T n P D && inR L 0 80)) := Lib.hid rfl
  have e1 : Hid (irOk F T n P D L = false → (Ending.returned (.tuple #[.slice none (cpV F T n P D L).length 0, .bool (irOk F T n P D L)]) = .returned (.tuple #[.slice none 0 0, .bool false]))) := Lib.hid (fun h => by simp [cpV, h])
  have e2 : Hid (irOk F T n P D L = false → cpV F T n P D L = []) := Lib.hid (fun h => by simp [cpV, h])
  have e3 : Hid (irOk F T n P D L = true → cpV F T n P D L = clV F T n P D L) := Lib.hid (fun h => by simp [cpV, h])
  cases h1 : dlOk F T n P D
  all_goals
    have H1 := Lib.hid h1
    clear h1
    go_enter Tryz.func11, Tryz.ntmps11
    go_wp2_with fail
    refine (rpAsked_any A c F B d T n C f P E g D _ (hf.below (by (repeat (first | exact Below.refl _ _ | assumption | (refine Below.alloc ?_ (by first | omega | (simp; done) | (simp; omega)) _) | (refine Below.setCell ?_ (by first | omega | (simp; done) | (simp; omega)) _) | (refine Below.drew ?_) | (refine Below.drewN ?_ _) | (refine Below.next (by assumption) ?_ (by first | omega | (simp; done) | (simp; omega))))))) (ht.below (by (repeat (first | exact Below.refl _ _ | assumption | (refine Below.alloc ?_ (by first | omega | (simp; done) | (simp; omega)) _) | (refine Below.setCell ?_ (by first | omega | (simp; done) | (simp; omega)) _) | (refine Below.drew ?_) | (refine Below.drewN ?_ _) | (refine Below.next (by assumption) ?_ (by first | omega | (simp; done) | (simp; omega))))))) (hp.below (by (repeat (first | exact Below.refl _ _ | assumption | (refine Below.alloc ?_ (by first | omega | (simp; done) | (simp; omega)) _) | (refine Below.setCell ?_ (by first | omega | (simp; done) | (simp; omega)) _) | (refine Below.drew ?_) | (refine Below.drewN ?_ _) | (refine Below.next (by assumption) ?_ (by first | omega | (simp; done) | (simp; omega))))))) lf lt lp hfc htc hpc (hd.below (by (repeat (first | exact Below.refl _ _ | assumption | (refine Below.alloc ?_ (by first | omega | (simp; done) | (simp; omega)) _) | (refine Below.setCell ?_ (by first | omega | (simp; done) | (simp; omega)) _) | (refine Below.drew ?_) | (refine Below.drewN ?_ _) | (refine Below.next (by assumption) ?_ (by first | omega | (simp; done) | (simp; omega))))))) ld).mono ?_
    rintro e w1 ⟨he, hq⟩
    rw [H1.out] at he
    subst he
    have m1_0 : w1.cell? ⟨w.heap.size, 0, none⟩ = some (.slice A F.length c) := (hq.cell (by first | omega | (simp; done) | (simp; omega))).trans (by simp [go_sem])
    have m1_1 : w1.cell? ⟨w.heap.size, 1, none⟩ = some (.slice B T.length d) := (hq.cell (by first | omega | (simp; done) | (simp; omega))).trans (by simp [go_sem])
    have m1_2 : w1.cell? ⟨w.heap.size, 2, none⟩ = some (.int .i64 n) := (hq.cell (by first | omega | (simp; done) | (simp; omega))).trans (by simp [go_sem])
    have m1_3 : w1.cell? ⟨w.heap.size, 3, none⟩ = some (.slice C P.length f) := (hq.cell (by first | omega | (simp; done) | (simp; omega))).trans (by simp [go_sem])
    have gz1 : w.heap.size < w1.heap.size := World.block_lt_of_cell? _ _ m1_0
    have hb1 : Below w.heap.size w w1 := by (repeat (first | exact Below.refl _ _ | assumption | (refine Below.alloc ?_ (by first | omega | (simp; done) | (simp; omega)) _) | (refine Below.setCell ?_ (by first | omega | (simp; done) | (simp; omega)) _) | (refine Below.drew ?_) | (refine Below.drewN ?_ _) | (refine Below.next (by assumption) ?_ (by first | omega | (simp; done) | (simp; omega)))))
    clear hq
  · go_wp2_with fail
    go_ret2
    exact ⟨none, 0, [], (e1.out (by rw [e0.out, H1.out]; rfl)).symm, by rw [e2.out (by rw [e0.out, H1.out]; rfl)]; exact World.ownsRow_nil _ _ _ _, by rw [e2.out (by rw [e0.out, H1.out]; rfl)]; exact PrOk.nil _ _ _, by (repeat (first | exact Below.refl _ _ | assumption | (refine Below.alloc ?_ (by first | omega | (simp; done) | (simp; omega)) _) | (refine Below.setCell ?_ (by first | omega | (simp; done) | (simp; omega)) _) | (refine Below.drew ?_) | (refine Below.drewN ?_ _) | (refine Below.next (by assumption) ?_ (by first | omega | (simp; done) | (simp; omega)))))⟩
  cases h2 : inR L 0 80
  all_goals
    have H2 := Lib.hid h2
    clear h2
    go_wp2_with (first | (go_at_call 40; refine (apDistance_any _ _).mono ?_; rintro e w' ⟨he, rfl⟩; rw [H2.out] at he; subst he) | fail)
  · go_ret2
    exact ⟨none, 0, [], (e1.out (by rw [e0.out, H1.out, H2.out]; rfl)).symm, by rw [e2.out (by rw [e0.out, H1.out, H2.out]; rfl)]; exact World.ownsRow_nil _ _ _ _, by rw [e2.out (by rw [e0.out, H1.out, H2.out]; rfl)]; exact PrOk.nil _ _ _, by (repeat (first | exact Below.refl _ _ | assumption | (refine Below.alloc ?_ (by first | omega | (simp; done) | (simp; omega)) _) | (refine Below.setCell ?_ (by first | omega | (simp; done) | (simp; omega)) _) | (refine Below.drew ?_) | (refine Below.drewN ?_ _) | (refine Below.next (by assumption) ?_ (by first | omega | (simp; done) | (simp; omega)))))⟩
  have HOK := Lib.hid (show irOk F T n P D L = true by rw [e0.out, H1.out, H2.out]; rfl)
  obtain ⟨hL0, hL1⟩ := inR_iff.1 H2.out
  have hp6 : P.length ≤ 6 := by
    have h1 := dlOk_iff.1 H1.out
    have h2 := rpOk_iff.1 h1.1
    have h3 := plOk_iff.1 (trOk_iff.1 h2.1).2.2.2.2
    omega
  refine (rpClose_any A c F B d T n C f P E g D L _ (hf.below (by (repeat (first | exact Below.refl _ _ | assumption | (refine Below.alloc ?_ (by first | omega | (simp; done) | (simp; omega)) _) | (refine Below.setCell ?_ (by first | omega | (simp; done) | (simp; omega)) _) | (refine Below.drew ?_) | (refine Below.drewN ?_ _) | (refine Below.next (by assumption) ?_ (by first | omega | (simp; done) | (simp; omega))))))) (ht.below (by (repeat (first | exact Below.refl _ _ | assumption | (refine Below.alloc ?_ (by first | omega | (simp; done) | (simp; omega)) _) | (refine Below.setCell ?_ (by first | omega | (simp; done) | (simp; omega)) _) | (refine Below.drew ?_) | (refine Below.drewN ?_ _) | (refine Below.next (by assumption) ?_ (by first | omega | (simp; done) | (simp; omega))))))) (hp.below (by (repeat (first | exact Below.refl _ _ | assumption | (refine Below.alloc ?_ (by first | omega | (simp; done) | (simp; omega)) _) | (refine Below.setCell ?_ (by first | omega | (simp; done) | (simp; omega)) _) | (refine Below.drew ?_) | (refine Below.drewN ?_ _) | (refine Below.next (by assumption) ?_ (by first | omega | (simp; done) | (simp; omega))))))) lf lt lp hfc htc hpc (hd.below (by (repeat (first | exact Below.refl _ _ | assumption | (refine Below.alloc ?_ (by first | omega | (simp; done) | (simp; omega)) _) | (refine Below.setCell ?_ (by first | omega | (simp; done) | (simp; omega)) _) | (refine Below.drew ?_) | (refine Below.drewN ?_ _) | (refine Below.next (by assumption) ?_ (by first | omega | (simp; done) | (simp; omega))))))) ld H1.out hL0 hL1).mono ?_
  rintro e w3 ⟨A3, c3, vals, rfl, ho3, hp3, hq3⟩
  have HO3 := Lib.hid ho3
  have HP3 := Lib.hid hp3
  have hb3 : Below w.heap.size w w3 := by (repeat (first | exact Below.refl _ _ | assumption | (refine Below.alloc ?_ (by first | omega | (simp; done) | (simp; omega)) _) | (refine Below.setCell ?_ (by first | omega | (simp; done) | (simp; omega)) _) | (refine Below.drew ?_) | (refine Below.drewN ?_ _) | (refine Below.next (by assumption) ?_ (by first | omega | (simp; done) | (simp; omega)))))
  clear ho3 hp3 m1_0 m1_1 m1_2 m1_3
  go_wp2_with fail
  go_ret2
  rw [e3.out HOK.out, HOK.out]
  exact ⟨A3, c3, vals, rfl, own_base HO3.out (by omega), HP3.out.base (by omega), hb3⟩


set_option maxRecDepth 100000 in
set_option maxHeartbeats 3200000 in
theorem impl_CloseDelayed_any (A : Option Addr) (c : Nat) (F : List Sp) (B : Option Addr) (d : Nat) (T : List Sp) (n : Int) (C : Option Addr) (f : Nat) (P : List Int) (E : Option Addr) (g : Nat) (D : List Int) (L : Int) (w : World) (hf : Mem w A (spots F)) (ht : Mem w B (spots T)) (hp : Mem w C (ints P)) (lf : F.length ≤ 1048576) (lt : T.length ≤ 1048576) (lp : P.length ≤ 1048576) (hfc : F.length ≤ c) (htc : T.length ≤ d) (hpc : P.length ≤ f) (hd : Mem w E (ints D)) (ld : D.length ≤ 1048576) (hdc : D.length ≤ g) : Calls Tryz.prog 10 #[.agg #[.slice A F.length c, .slice B T.length d, .int .i64 n, .slice C P.length f], .slice E D.length g, .int .i64 L] w (RetPairsB w (cpV F T n P D L) (irOk F T n P D L)) := by
  have e0 : Hid (irOk F T n P D L = (dlOk F T n P D && inR L 0 80)) := Lib.hid rfl
  have e1 : Hid (irOk F T n P D L = false → (Ending.returned (.tuple #[.slice none (cpV F T n P D L).length 0, .bool (irOk F T n P D L)]) = .returned (.tuple #[.slice none 0 0, .bool false]))) := Lib.hid (fun h => by simp [cpV, h])
  have e2 : Hid (irOk F T n P D L = false → cpV F T n P D L = []) := Lib.hid (fun h => by simp [cpV, h])
  have e3 : Hid (irOk F T n P D L = true → cpV F T n P D L = clV F T n P D L) := Lib.hid (fun h => by simp [cpV, h])
  cases h1 : dlOk F T n P D
  all_goals
    have H1 := Lib.hid h1
    clear h1
    go_enter Tryz.func10, Tryz.ntmps10
    go_wp2_with fail
    refine (areDelays_any A c F B d T n C f P E g D _ (hf.below (by (repeat (first | exact Below.refl _ _ | assumption | (refine Below.alloc ?_ (by first | omega | (simp; done) | (simp; omega)) _) | (refine Below.setCell ?_ (by first | omega | (simp; done) | (simp; omega)) _) | (refine Below.drew ?_) | (refine Below.drewN ?_ _) | (refine Below.next (by assumption) ?_ (by first | omega | (simp; done) | (simp; omega))))))) (ht.below (by (repeat (first | exact Below.refl _ _ | assumption | (refine Below.alloc ?_ (by first | omega | (simp; done) | (simp; omega)) _) | (refine Below.setCell ?_ (by first | omega | (simp; done) | (simp; omega)) _) | (refine Below.drew ?_) | (refine Below.drewN ?_ _) | (refine Below.next (by assumption) ?_ (by first | omega | (simp; done) | (simp; omega))))))) (hp.below (by (repeat (first | exact Below.refl _ _ | assumption | (refine Below.alloc ?_ (by first | omega | (simp; done) | (simp; omega)) _) | (refine Below.setCell ?_ (by first | omega | (simp; done) | (simp; omega)) _) | (refine Below.drew ?_) | (refine Below.drewN ?_ _) | (refine Below.next (by assumption) ?_ (by first | omega | (simp; done) | (simp; omega))))))) lf lt lp hfc htc hpc (hd.below (by (repeat (first | exact Below.refl _ _ | assumption | (refine Below.alloc ?_ (by first | omega | (simp; done) | (simp; omega)) _) | (refine Below.setCell ?_ (by first | omega | (simp; done) | (simp; omega)) _) | (refine Below.drew ?_) | (refine Below.drewN ?_ _) | (refine Below.next (by assumption) ?_ (by first | omega | (simp; done) | (simp; omega))))))) ld).mono ?_
    rintro e w1 ⟨he, hq⟩
    rw [H1.out] at he
    subst he
    have m1_0 : w1.cell? ⟨w.heap.size, 0, none⟩ = some (.slice A F.length c) := (hq.cell (by first | omega | (simp; done) | (simp; omega))).trans (by simp [go_sem])
    have m1_1 : w1.cell? ⟨w.heap.size, 1, none⟩ = some (.slice B T.length d) := (hq.cell (by first | omega | (simp; done) | (simp; omega))).trans (by simp [go_sem])
    have m1_2 : w1.cell? ⟨w.heap.size, 2, none⟩ = some (.int .i64 n) := (hq.cell (by first | omega | (simp; done) | (simp; omega))).trans (by simp [go_sem])
    have m1_3 : w1.cell? ⟨w.heap.size, 3, none⟩ = some (.slice C P.length f) := (hq.cell (by first | omega | (simp; done) | (simp; omega))).trans (by simp [go_sem])
    have gz1 : w.heap.size < w1.heap.size := World.block_lt_of_cell? _ _ m1_0
    have hb1 : Below w.heap.size w w1 := by (repeat (first | exact Below.refl _ _ | assumption | (refine Below.alloc ?_ (by first | omega | (simp; done) | (simp; omega)) _) | (refine Below.setCell ?_ (by first | omega | (simp; done) | (simp; omega)) _) | (refine Below.drew ?_) | (refine Below.drewN ?_ _) | (refine Below.next (by assumption) ?_ (by first | omega | (simp; done) | (simp; omega)))))
    clear hq
  · go_wp2_with fail
    go_ret2
    exact ⟨none, 0, [], (e1.out (by rw [e0.out, H1.out]; rfl)).symm, by rw [e2.out (by rw [e0.out, H1.out]; rfl)]; exact World.ownsRow_nil _ _ _ _, by rw [e2.out (by rw [e0.out, H1.out]; rfl)]; exact PrOk.nil _ _ _, by (repeat (first | exact Below.refl _ _ | assumption | (refine Below.alloc ?_ (by first | omega | (simp; done) | (simp; omega)) _) | (refine Below.setCell ?_ (by first | omega | (simp; done) | (simp; omega)) _) | (refine Below.drew ?_) | (refine Below.drewN ?_ _) | (refine Below.next (by assumption) ?_ (by first | omega | (simp; done) | (simp; omega)))))⟩
  cases h2 : inR L 0 80
  all_goals
    have H2 := Lib.hid h2
    clear h2
    go_wp2_with (first | (go_at_call 37; refine (isLeast_any _ _).mono ?_; rintro e w' ⟨he, rfl⟩; rw [H2.out] at he; subst he) | fail)
  · go_ret2
    exact ⟨none, 0, [], (e1.out (by rw [e0.out, H1.out, H2.out]; rfl)).symm, by rw [e2.out (by rw [e0.out, H1.out, H2.out]; rfl)]; exact World.ownsRow_nil _ _ _ _, by rw [e2.out (by rw [e0.out, H1.out, H2.out]; rfl)]; exact PrOk.nil _ _ _, by (repeat (first | exact Below.refl _ _ | assumption | (refine Below.alloc ?_ (by first | omega | (simp; done) | (simp; omega)) _) | (refine Below.setCell ?_ (by first | omega | (simp; done) | (simp; omega)) _) | (refine Below.drew ?_) | (refine Below.drewN ?_ _) | (refine Below.next (by assumption) ?_ (by first | omega | (simp; done) | (simp; omega)))))⟩
  have HOK := Lib.hid (show irOk F T n P D L = true by rw [e0.out, H1.out, H2.out]; rfl)
  obtain ⟨hL0, hL1⟩ := inR_iff.1 H2.out
  have hp6 : P.length ≤ 6 := by
    have h1 := dlOk_iff.1 H1.out
    have h2 := rpOk_iff.1 h1.1
    have h3 := plOk_iff.1 (trOk_iff.1 h2.1).2.2.2.2
    omega
  refine (delayedPairs_any A c F B d T n C f P E g D L _ (hf.below (by (repeat (first | exact Below.refl _ _ | assumption | (refine Below.alloc ?_ (by first | omega | (simp; done) | (simp; omega)) _) | (refine Below.setCell ?_ (by first | omega | (simp; done) | (simp; omega)) _) | (refine Below.drew ?_) | (refine Below.drewN ?_ _) | (refine Below.next (by assumption) ?_ (by first | omega | (simp; done) | (simp; omega))))))) (ht.below (by (repeat (first | exact Below.refl _ _ | assumption | (refine Below.alloc ?_ (by first | omega | (simp; done) | (simp; omega)) _) | (refine Below.setCell ?_ (by first | omega | (simp; done) | (simp; omega)) _) | (refine Below.drew ?_) | (refine Below.drewN ?_ _) | (refine Below.next (by assumption) ?_ (by first | omega | (simp; done) | (simp; omega))))))) (hp.below (by (repeat (first | exact Below.refl _ _ | assumption | (refine Below.alloc ?_ (by first | omega | (simp; done) | (simp; omega)) _) | (refine Below.setCell ?_ (by first | omega | (simp; done) | (simp; omega)) _) | (refine Below.drew ?_) | (refine Below.drewN ?_ _) | (refine Below.next (by assumption) ?_ (by first | omega | (simp; done) | (simp; omega))))))) lf lt lp hfc htc hpc (hd.below (by (repeat (first | exact Below.refl _ _ | assumption | (refine Below.alloc ?_ (by first | omega | (simp; done) | (simp; omega)) _) | (refine Below.setCell ?_ (by first | omega | (simp; done) | (simp; omega)) _) | (refine Below.drew ?_) | (refine Below.drewN ?_ _) | (refine Below.next (by assumption) ?_ (by first | omega | (simp; done) | (simp; omega))))))) ld H1.out hL0 hL1).mono ?_
  rintro e w3 ⟨A3, c3, vals, rfl, ho3, hp3, hq3⟩
  have HO3 := Lib.hid ho3
  have HP3 := Lib.hid hp3
  have hb3 : Below w.heap.size w w3 := by (repeat (first | exact Below.refl _ _ | assumption | (refine Below.alloc ?_ (by first | omega | (simp; done) | (simp; omega)) _) | (refine Below.setCell ?_ (by first | omega | (simp; done) | (simp; omega)) _) | (refine Below.drew ?_) | (refine Below.drewN ?_ _) | (refine Below.next (by assumption) ?_ (by first | omega | (simp; done) | (simp; omega)))))
  clear ho3 hp3 m1_0 m1_1 m1_2 m1_3
  go_wp2_with fail
  go_ret2
  rw [e3.out HOK.out, HOK.out]
  exact ⟨A3, c3, vals, rfl, own_base HO3.out (by omega), HP3.out.base (by omega), hb3⟩


end Go.Proofs.YthehcjfljjfnmaaGreat
