/-
  Walks of laws: LeastCoverOf.
-/
import Derived.Test.YthppancpecjegaaCpy
import Derived.Test.YthppancpecjegaaCpySp
import Derived.Test.YthppancpecjegaaAcq
import Derived.Deep.RegionHeld3
namespace Go.Proofs.Ythppancpecjegaa
open Go.RowKit Go.Sort

theorem keepG {W w' : World} {p : Addr} {v : Value} {row : Option Nat} (hg : W.grownBy w' row) (h : W.cell? p = some v) (hr : ∀ k, row = some k → p.block ≠ k) : w'.cell? p = some v := hg.cell h (fun e => hr p.block e.symm rfl)
theorem keepA {w : World} {o : Obj} {p : Addr} {v : Value} (h : w.cell? p = some v) : (w.alloc o).cell? p = some v := keep1 ((Below.refl _ _).alloc (Nat.le_refl _) o) h
set_option maxRecDepth 100000 in
set_option maxHeartbeats 6400000 in
theorem FnExactLeastCoverOf_walk (A0 : Option Addr) (c0 : Nat) (L0 : List Sp) (A1 : Option Addr) (c1 : Nat) (L1 : List Int) (A2 : Option Addr) (c2 : Nat) (L2 : List Int) (w : World) (m0 : Mem w A0 (spots L0)) (_ : ∀ a ∈ L0, okSp a) (l0 : L0.length ≤ c0) (n0 : c0 ≤ maxLen) (m1 : Mem w A1 (ints L1)) (_ : ∀ a ∈ L1, okInt a) (l1 : L1.length ≤ c1) (n1 : c1 ≤ maxLen) (m2 : Mem w A2 (ints L2)) (_ : ∀ a ∈ L2, okInt a) (l2 : L2.length ≤ c2) (n2 : c2 ≤ maxLen) : Calls Try.prog 4 #[.slice A0 L0.length c0, .slice A1 L1.length c1, .slice A2 L2.length c2] w fun e w' => e = .returned (.bool true) ∧ Below w.heap.size w w' := by
  unfold maxLen at n0
  unfold maxLen at n1
  unfold maxLen at n2
  by_cases t1 : L1.length ≤ 1048576
  case neg =>
    go_enter Try.func4, Try.ntmps4
    go_wp2_with fail
    go_ret
    exact ⟨rfl, by (repeat (first | exact Below.refl _ _ | assumption | (refine Below.alloc ?_ (by first | omega | (simp; done) | (simp; omega)) _) | (refine Below.setCell ?_ (by first | omega | (simp; done) | (simp; omega)) _) | (refine Below.drew ?_) | (refine Below.drewN ?_ _) | (refine Below.next (by assumption) ?_ (by first | omega | (simp; done) | (simp; omega)))))⟩
  by_cases t2 : L2.length ≤ 1048576
  case neg =>
    go_enter Try.func4, Try.ntmps4
    go_wp2_with fail
    go_ret
    exact ⟨rfl, by (repeat (first | exact Below.refl _ _ | assumption | (refine Below.alloc ?_ (by first | omega | (simp; done) | (simp; omega)) _) | (refine Below.setCell ?_ (by first | omega | (simp; done) | (simp; omega)) _) | (refine Below.drew ?_) | (refine Below.drewN ?_ _) | (refine Below.next (by assumption) ?_ (by first | omega | (simp; done) | (simp; omega)))))⟩
  by_cases t0 : L0.length ≤ 1048576
  case neg =>
    go_enter Try.func4, Try.ntmps4
    go_wp2_with (first | (go_at_call 7; refine (szSpotS_no _ _ _ _ _ (by omega) (by omega) (by omega) (by omega)).mono ?_; rintro e w' ⟨rfl, rfl⟩) | (go_at_call 7; refine (szSpotS_yes _ _ _ _ _ (by omega) (by omega) (by omega)).mono ?_; rintro e w' ⟨rfl, rfl⟩))
    go_ret
    exact ⟨rfl, by (repeat (first | exact Below.refl _ _ | assumption | (refine Below.alloc ?_ (by first | omega | (simp; done) | (simp; omega)) _) | (refine Below.setCell ?_ (by first | omega | (simp; done) | (simp; omega)) _) | (refine Below.drew ?_) | (refine Below.drewN ?_ _) | (refine Below.next (by assumption) ?_ (by first | omega | (simp; done) | (simp; omega)))))⟩
  have u0 : L0.length ≤ 1048576 := by omega
  have u1 : L1.length ≤ 1048576 := by omega
  have u2 : L2.length ≤ 1048576 := by omega
  have hV0 : (lkV L0 L1 L2).length ≤ 1048576 := Nat.le_trans (lkV_le L0 L1 L2) u2
  go_enter Try.func4, Try.ntmps4
  go_wp2_with fail
  refine (szSpotS_yes _ _ _ _ _ (by omega) (by omega) (by omega)).mono ?_
  rintro e w' ⟨rfl, rfl⟩
  go_wp2_with fail
  refine (toSpotS_any _ _ _ _ (m0.below (by (repeat (first | exact Below.refl _ _ | assumption | (refine Below.alloc ?_ (by first | omega | (simp; done) | (simp; omega)) _) | (refine Below.setCell ?_ (by first | omega | (simp; done) | (simp; omega)) _) | (refine Below.drew ?_) | (refine Below.drewN ?_ _) | (refine Below.next (by assumption) ?_ (by first | omega | (simp; done) | (simp; omega))))))) (by omega)).mono ?_
  rintro e w1 ⟨Ar1_0, cr1_0, rfl, ho1_0, hq1⟩
  have hz1 := hq1.size
  (try simp at hz1)
  go_wp2_with fail
  refine (toIntS_any _ _ _ _ (m1.below (by (repeat (first | exact Below.refl _ _ | assumption | (refine Below.alloc ?_ (by first | omega | (simp; done) | (simp; omega)) _) | (refine Below.setCell ?_ (by first | omega | (simp; done) | (simp; omega)) _) | (refine Below.drew ?_) | (refine Below.drewN ?_ _) | (refine Below.next (by assumption) ?_ (by first | omega | (simp; done) | (simp; omega))))))) (by omega)).mono ?_
  rintro e w2 ⟨Ar2_0, cr2_0, rfl, ho2_0, hq2⟩
  have hz2 := hq2.size
  (try simp at hz2)
  go_wp2_with fail
  refine (toIntS_any _ _ _ _ (m2.below (by (repeat (first | exact Below.refl _ _ | assumption | (refine Below.alloc ?_ (by first | omega | (simp; done) | (simp; omega)) _) | (refine Below.setCell ?_ (by first | omega | (simp; done) | (simp; omega)) _) | (refine Below.drew ?_) | (refine Below.drewN ?_ _) | (refine Below.next (by assumption) ?_ (by first | omega | (simp; done) | (simp; omega))))))) (by omega)).mono ?_
  rintro e w3 ⟨Ar3_0, cr3_0, rfl, ho3_0, hq3⟩
  have hz3 := hq3.size
  (try simp at hz3)
  go_wp2_with fail
  refine (spec_LeastCoverOf_any _ _ L0 _ _ L1 _ _ L2 _ (Mem.below (Mem.of_own ho1_0) (by (repeat (first | exact Below.refl _ _ | assumption | (refine Below.alloc ?_ (by first | omega | (simp; done) | (simp; omega)) _) | (refine Below.setCell ?_ (by first | omega | (simp; done) | (simp; omega)) _) | (refine Below.drew ?_) | (refine Below.drewN ?_ _) | (refine Below.next (by assumption) ?_ (by first | omega | (simp; done) | (simp; omega))))))) (Mem.below (Mem.of_own ho2_0) (by (repeat (first | exact Below.refl _ _ | assumption | (refine Below.alloc ?_ (by first | omega | (simp; done) | (simp; omega)) _) | (refine Below.setCell ?_ (by first | omega | (simp; done) | (simp; omega)) _) | (refine Below.drew ?_) | (refine Below.drewN ?_ _) | (refine Below.next (by assumption) ?_ (by first | omega | (simp; done) | (simp; omega))))))) (Mem.below (Mem.of_own ho3_0) (by (repeat (first | exact Below.refl _ _ | assumption | (refine Below.alloc ?_ (by first | omega | (simp; done) | (simp; omega)) _) | (refine Below.setCell ?_ (by first | omega | (simp; done) | (simp; omega)) _) | (refine Below.drew ?_) | (refine Below.drewN ?_ _) | (refine Below.next (by assumption) ?_ (by first | omega | (simp; done) | (simp; omega))))))) u0 u1 u2 (own_cap ho1_0)).mono ?_
  rintro e w4 ⟨Ar4_0, cr4_0, rfl, ho4_0, hq4⟩
  have hz4 := hq4.size
  (try simp at hz4)
  go_wp2_with fail
  refine (toSpotS_any _ _ _ _ (m0.below (by (repeat (first | exact Below.refl _ _ | assumption | (refine Below.alloc ?_ (by first | omega | (simp; done) | (simp; omega)) _) | (refine Below.setCell ?_ (by first | omega | (simp; done) | (simp; omega)) _) | (refine Below.drew ?_) | (refine Below.drewN ?_ _) | (refine Below.next (by assumption) ?_ (by first | omega | (simp; done) | (simp; omega))))))) (by omega)).mono ?_
  rintro e w5 ⟨Ar5_0, cr5_0, rfl, ho5_0, hq5⟩
  have hz5 := hq5.size
  (try simp at hz5)
  go_wp2_with fail
  refine (toIntS_any _ _ _ _ (m1.below (by (repeat (first | exact Below.refl _ _ | assumption | (refine Below.alloc ?_ (by first | omega | (simp; done) | (simp; omega)) _) | (refine Below.setCell ?_ (by first | omega | (simp; done) | (simp; omega)) _) | (refine Below.drew ?_) | (refine Below.drewN ?_ _) | (refine Below.next (by assumption) ?_ (by first | omega | (simp; done) | (simp; omega))))))) (by omega)).mono ?_
  rintro e w6 ⟨Ar6_0, cr6_0, rfl, ho6_0, hq6⟩
  have hz6 := hq6.size
  (try simp at hz6)
  go_wp2_with fail
  refine (toIntS_any _ _ _ _ (m2.below (by (repeat (first | exact Below.refl _ _ | assumption | (refine Below.alloc ?_ (by first | omega | (simp; done) | (simp; omega)) _) | (refine Below.setCell ?_ (by first | omega | (simp; done) | (simp; omega)) _) | (refine Below.drew ?_) | (refine Below.drewN ?_ _) | (refine Below.next (by assumption) ?_ (by first | omega | (simp; done) | (simp; omega))))))) (by omega)).mono ?_
  rintro e w7 ⟨Ar7_0, cr7_0, rfl, ho7_0, hq7⟩
  have hz7 := hq7.size
  (try simp at hz7)
  go_wp2_with fail
  refine (impl_LeastCoverOf_any _ _ L0 _ _ L1 _ _ L2 _ (Mem.below (Mem.of_own ho5_0) (by (repeat (first | exact Below.refl _ _ | assumption | (refine Below.alloc ?_ (by first | omega | (simp; done) | (simp; omega)) _) | (refine Below.setCell ?_ (by first | omega | (simp; done) | (simp; omega)) _) | (refine Below.drew ?_) | (refine Below.drewN ?_ _) | (refine Below.next (by assumption) ?_ (by first | omega | (simp; done) | (simp; omega))))))) (Mem.below (Mem.of_own ho6_0) (by (repeat (first | exact Below.refl _ _ | assumption | (refine Below.alloc ?_ (by first | omega | (simp; done) | (simp; omega)) _) | (refine Below.setCell ?_ (by first | omega | (simp; done) | (simp; omega)) _) | (refine Below.drew ?_) | (refine Below.drewN ?_ _) | (refine Below.next (by assumption) ?_ (by first | omega | (simp; done) | (simp; omega))))))) (Mem.below (Mem.of_own ho7_0) (by (repeat (first | exact Below.refl _ _ | assumption | (refine Below.alloc ?_ (by first | omega | (simp; done) | (simp; omega)) _) | (refine Below.setCell ?_ (by first | omega | (simp; done) | (simp; omega)) _) | (refine Below.drew ?_) | (refine Below.drewN ?_ _) | (refine Below.next (by assumption) ?_ (by first | omega | (simp; done) | (simp; omega))))))) u0 u1 u2 (own_cap ho5_0)).mono ?_
  rintro e w8 ⟨Ar8_0, cr8_0, rfl, ho8_0, hq8⟩
  have hz8 := hq8.size
  (try simp at hz8)
  go_wp2_with fail
  refine (eqIntS_any _ _ _ _ _ _ _ (Mem.below (Mem.of_own ho8_0) (by (repeat (first | exact Below.refl _ _ | assumption | (refine Below.alloc ?_ (by first | omega | (simp; done) | (simp; omega)) _) | (refine Below.setCell ?_ (by first | omega | (simp; done) | (simp; omega)) _) | (refine Below.drew ?_) | (refine Below.drewN ?_ _) | (refine Below.next (by assumption) ?_ (by first | omega | (simp; done) | (simp; omega))))))) (Mem.below (Mem.of_own ho4_0) (by (repeat (first | exact Below.refl _ _ | assumption | (refine Below.alloc ?_ (by first | omega | (simp; done) | (simp; omega)) _) | (refine Below.setCell ?_ (by first | omega | (simp; done) | (simp; omega)) _) | (refine Below.drew ?_) | (refine Below.drewN ?_ _) | (refine Below.next (by assumption) ?_ (by first | omega | (simp; done) | (simp; omega))))))) (by first | omega | exact hV0) (by first | omega | exact hV0)).mono ?_
  rintro e w9 ⟨rfl, hq9⟩
  have hz9 := hq9.size
  (try simp at hz9)
  go_wp2_with fail
  refine (toSpotS_any _ _ _ _ (m0.below (by (repeat (first | exact Below.refl _ _ | assumption | (refine Below.alloc ?_ (by first | omega | (simp; done) | (simp; omega)) _) | (refine Below.setCell ?_ (by first | omega | (simp; done) | (simp; omega)) _) | (refine Below.drew ?_) | (refine Below.drewN ?_ _) | (refine Below.next (by assumption) ?_ (by first | omega | (simp; done) | (simp; omega))))))) (by omega)).mono ?_
  rintro e w10 ⟨Ar10_0, cr10_0, rfl, ho10_0, hq10⟩
  have hz10 := hq10.size
  (try simp at hz10)
  go_wp2_with fail
  refine (eqSpotS_any _ _ _ _ _ _ _ (Mem.below (Mem.of_own ho5_0) (by (repeat (first | exact Below.refl _ _ | assumption | (refine Below.alloc ?_ (by first | omega | (simp; done) | (simp; omega)) _) | (refine Below.setCell ?_ (by first | omega | (simp; done) | (simp; omega)) _) | (refine Below.drew ?_) | (refine Below.drewN ?_ _) | (refine Below.next (by assumption) ?_ (by first | omega | (simp; done) | (simp; omega))))))) (Mem.below (Mem.of_own ho10_0) (by (repeat (first | exact Below.refl _ _ | assumption | (refine Below.alloc ?_ (by first | omega | (simp; done) | (simp; omega)) _) | (refine Below.setCell ?_ (by first | omega | (simp; done) | (simp; omega)) _) | (refine Below.drew ?_) | (refine Below.drewN ?_ _) | (refine Below.next (by assumption) ?_ (by first | omega | (simp; done) | (simp; omega))))))) (by omega) (by omega)).mono ?_
  rintro e w11 ⟨rfl, hq11⟩
  have hz11 := hq11.size
  (try simp at hz11)
  go_wp2_with fail
  refine (toIntS_any _ _ _ _ (m1.below (by (repeat (first | exact Below.refl _ _ | assumption | (refine Below.alloc ?_ (by first | omega | (simp; done) | (simp; omega)) _) | (refine Below.setCell ?_ (by first | omega | (simp; done) | (simp; omega)) _) | (refine Below.drew ?_) | (refine Below.drewN ?_ _) | (refine Below.next (by assumption) ?_ (by first | omega | (simp; done) | (simp; omega))))))) (by omega)).mono ?_
  rintro e w12 ⟨Ar12_0, cr12_0, rfl, ho12_0, hq12⟩
  have hz12 := hq12.size
  (try simp at hz12)
  go_wp2_with fail
  refine (eqIntS_any _ _ _ _ _ _ _ (Mem.below (Mem.of_own ho6_0) (by (repeat (first | exact Below.refl _ _ | assumption | (refine Below.alloc ?_ (by first | omega | (simp; done) | (simp; omega)) _) | (refine Below.setCell ?_ (by first | omega | (simp; done) | (simp; omega)) _) | (refine Below.drew ?_) | (refine Below.drewN ?_ _) | (refine Below.next (by assumption) ?_ (by first | omega | (simp; done) | (simp; omega))))))) (Mem.below (Mem.of_own ho12_0) (by (repeat (first | exact Below.refl _ _ | assumption | (refine Below.alloc ?_ (by first | omega | (simp; done) | (simp; omega)) _) | (refine Below.setCell ?_ (by first | omega | (simp; done) | (simp; omega)) _) | (refine Below.drew ?_) | (refine Below.drewN ?_ _) | (refine Below.next (by assumption) ?_ (by first | omega | (simp; done) | (simp; omega))))))) (by omega) (by omega)).mono ?_
  rintro e w13 ⟨rfl, hq13⟩
  have hz13 := hq13.size
  (try simp at hz13)
  go_wp2_with fail
  refine (toIntS_any _ _ _ _ (m2.below (by (repeat (first | exact Below.refl _ _ | assumption | (refine Below.alloc ?_ (by first | omega | (simp; done) | (simp; omega)) _) | (refine Below.setCell ?_ (by first | omega | (simp; done) | (simp; omega)) _) | (refine Below.drew ?_) | (refine Below.drewN ?_ _) | (refine Below.next (by assumption) ?_ (by first | omega | (simp; done) | (simp; omega))))))) (by omega)).mono ?_
  rintro e w14 ⟨Ar14_0, cr14_0, rfl, ho14_0, hq14⟩
  have hz14 := hq14.size
  (try simp at hz14)
  go_wp2_with fail
  refine (eqIntS_any _ _ _ _ _ _ _ (Mem.below (Mem.of_own ho7_0) (by (repeat (first | exact Below.refl _ _ | assumption | (refine Below.alloc ?_ (by first | omega | (simp; done) | (simp; omega)) _) | (refine Below.setCell ?_ (by first | omega | (simp; done) | (simp; omega)) _) | (refine Below.drew ?_) | (refine Below.drewN ?_ _) | (refine Below.next (by assumption) ?_ (by first | omega | (simp; done) | (simp; omega))))))) (Mem.below (Mem.of_own ho14_0) (by (repeat (first | exact Below.refl _ _ | assumption | (refine Below.alloc ?_ (by first | omega | (simp; done) | (simp; omega)) _) | (refine Below.setCell ?_ (by first | omega | (simp; done) | (simp; omega)) _) | (refine Below.drew ?_) | (refine Below.drewN ?_ _) | (refine Below.next (by assumption) ?_ (by first | omega | (simp; done) | (simp; omega))))))) (by omega) (by omega)).mono ?_
  rintro e w15 ⟨rfl, hq15⟩
  have hz15 := hq15.size
  (try simp at hz15)
  go_wp2_with fail
  have hp5_0 := own_below (w' := w15) ho5_0 (by (repeat (first | exact Below.refl _ _ | assumption | (refine Below.alloc ?_ (by first | omega | (simp; done) | (simp; omega)) _) | (refine Below.setCell ?_ (by first | omega | (simp; done) | (simp; omega)) _) | (refine Below.drew ?_) | (refine Below.drewN ?_ _) | (refine Below.next (by assumption) ?_ (by first | omega | (simp; done) | (simp; omega))))))
  have hp4_0 := own_below (w' := w15) ho4_0 (by (repeat (first | exact Below.refl _ _ | assumption | (refine Below.alloc ?_ (by first | omega | (simp; done) | (simp; omega)) _) | (refine Below.setCell ?_ (by first | omega | (simp; done) | (simp; omega)) _) | (refine Below.drew ?_) | (refine Below.drewN ?_ _) | (refine Below.next (by assumption) ?_ (by first | omega | (simp; done) | (simp; omega))))))
  have hp8_0 := own_below (w' := w15) ho8_0 (by (repeat (first | exact Below.refl _ _ | assumption | (refine Below.alloc ?_ (by first | omega | (simp; done) | (simp; omega)) _) | (refine Below.setCell ?_ (by first | omega | (simp; done) | (simp; omega)) _) | (refine Below.drew ?_) | (refine Below.drewN ?_ _) | (refine Below.next (by assumption) ?_ (by first | omega | (simp; done) | (simp; omega))))))
  have hp6_0 := own_below (w' := w15) ho6_0 (by (repeat (first | exact Below.refl _ _ | assumption | (refine Below.alloc ?_ (by first | omega | (simp; done) | (simp; omega)) _) | (refine Below.setCell ?_ (by first | omega | (simp; done) | (simp; omega)) _) | (refine Below.drew ?_) | (refine Below.drewN ?_ _) | (refine Below.next (by assumption) ?_ (by first | omega | (simp; done) | (simp; omega))))))
  have hp7_0 := own_below (w' := w15) ho7_0 (by (repeat (first | exact Below.refl _ _ | assumption | (refine Below.alloc ?_ (by first | omega | (simp; done) | (simp; omega)) _) | (refine Below.setCell ?_ (by first | omega | (simp; done) | (simp; omega)) _) | (refine Below.drew ?_) | (refine Below.drewN ?_ _) | (refine Below.next (by assumption) ?_ (by first | omega | (simp; done) | (simp; omega))))))
  refine (markSpotS_any _ _ _ L0 1 _ hp5_0 (by first | omega | exact hV0) (by omega) (by omega)).mono ?_
  rintro e w16 ⟨rfl, hm16, hg16⟩
  have hk4_0_16 := own_kept hp4_0 hg16 (fun k hk j hj => by have a1 := ho5_0.lt k hk; have a2 := ho4_0.lt j hj; (try simp at a1); (try simp at a2); omega)
  have hk8_0_16 := own_kept hp8_0 hg16 (fun k hk j hj => by have a1 := ho5_0.lt k hk; have a2 := ho8_0.lt j hj; (try simp at a1); (try simp at a2); omega)
  have hk6_0_16 := own_kept hp6_0 hg16 (fun k hk j hj => by have a1 := ho5_0.lt k hk; have a2 := ho6_0.lt j hj; (try simp at a1); (try simp at a2); omega)
  have hk7_0_16 := own_kept hp7_0 hg16 (fun k hk j hj => by have a1 := ho5_0.lt k hk; have a2 := ho7_0.lt j hj; (try simp at a1); (try simp at a2); omega)
  have hB16 : Below w.heap.size w w16 := below_grown (by (repeat (first | exact Below.refl _ _ | assumption | (refine Below.alloc ?_ (by first | omega | (simp; done) | (simp; omega)) _) | (refine Below.setCell ?_ (by first | omega | (simp; done) | (simp; omega)) _) | (refine Below.drew ?_) | (refine Below.drewN ?_ _) | (refine Below.next (by assumption) ?_ (by first | omega | (simp; done) | (simp; omega)))))) hg16 (by first | omega | (simp; omega)) (fun k hk => by have a1 := ho5_0.lt k hk; (try simp at a1); (try dsimp only); omega)
  have hz16 := hg16.size
  (try simp at hz16)
  clear hp5_0 hp4_0 hp8_0 hp6_0 hp7_0
  go_wp2_with fail
  have hp6_0 := own_below (w' := w16) hk6_0_16 (by (repeat (first | exact Below.refl _ _ | assumption | (refine Below.alloc ?_ (by first | omega | (simp; done) | (simp; omega)) _) | (refine Below.setCell ?_ (by first | omega | (simp; done) | (simp; omega)) _) | (refine Below.drew ?_) | (refine Below.drewN ?_ _) | (refine Below.next (by assumption) ?_ (by first | omega | (simp; done) | (simp; omega))))))
  have hp4_0 := own_below (w' := w16) hk4_0_16 (by (repeat (first | exact Below.refl _ _ | assumption | (refine Below.alloc ?_ (by first | omega | (simp; done) | (simp; omega)) _) | (refine Below.setCell ?_ (by first | omega | (simp; done) | (simp; omega)) _) | (refine Below.drew ?_) | (refine Below.drewN ?_ _) | (refine Below.next (by assumption) ?_ (by first | omega | (simp; done) | (simp; omega))))))
  have hp8_0 := own_below (w' := w16) hk8_0_16 (by (repeat (first | exact Below.refl _ _ | assumption | (refine Below.alloc ?_ (by first | omega | (simp; done) | (simp; omega)) _) | (refine Below.setCell ?_ (by first | omega | (simp; done) | (simp; omega)) _) | (refine Below.drew ?_) | (refine Below.drewN ?_ _) | (refine Below.next (by assumption) ?_ (by first | omega | (simp; done) | (simp; omega))))))
  have hp7_0 := own_below (w' := w16) hk7_0_16 (by (repeat (first | exact Below.refl _ _ | assumption | (refine Below.alloc ?_ (by first | omega | (simp; done) | (simp; omega)) _) | (refine Below.setCell ?_ (by first | omega | (simp; done) | (simp; omega)) _) | (refine Below.drew ?_) | (refine Below.drewN ?_ _) | (refine Below.next (by assumption) ?_ (by first | omega | (simp; done) | (simp; omega))))))
  refine (markIntS_any _ _ _ L1 _ _ hp6_0 (by first | omega | exact hV0) (by omega) (by omega)).mono ?_
  rintro e w17 ⟨rfl, hm17, hg17⟩
  have hk4_0_17 := own_kept hp4_0 hg17 (fun k hk j hj => by have a1 := ho6_0.lt k hk; have a2 := ho4_0.lt j hj; (try simp at a1); (try simp at a2); omega)
  have hk8_0_17 := own_kept hp8_0 hg17 (fun k hk j hj => by have a1 := ho6_0.lt k hk; have a2 := ho8_0.lt j hj; (try simp at a1); (try simp at a2); omega)
  have hk7_0_17 := own_kept hp7_0 hg17 (fun k hk j hj => by have a1 := ho6_0.lt k hk; have a2 := ho7_0.lt j hj; (try simp at a1); (try simp at a2); omega)
  have hB17 : Below w.heap.size w w17 := below_grown (by (repeat (first | exact Below.refl _ _ | assumption | (refine Below.alloc ?_ (by first | omega | (simp; done) | (simp; omega)) _) | (refine Below.setCell ?_ (by first | omega | (simp; done) | (simp; omega)) _) | (refine Below.drew ?_) | (refine Below.drewN ?_ _) | (refine Below.next (by assumption) ?_ (by first | omega | (simp; done) | (simp; omega)))))) hg17 (by first | omega | (simp; omega)) (fun k hk => by have a1 := ho6_0.lt k hk; (try simp at a1); (try dsimp only); omega)
  have hz17 := hg17.size
  (try simp at hz17)
  clear hp6_0 hp4_0 hp8_0 hp7_0
  go_wp2_with fail
  have hp7_0 := own_below (w' := w17) hk7_0_17 (by (repeat (first | exact Below.refl _ _ | assumption | (refine Below.alloc ?_ (by first | omega | (simp; done) | (simp; omega)) _) | (refine Below.setCell ?_ (by first | omega | (simp; done) | (simp; omega)) _) | (refine Below.drew ?_) | (refine Below.drewN ?_ _) | (refine Below.next (by assumption) ?_ (by first | omega | (simp; done) | (simp; omega))))))
  have hp4_0 := own_below (w' := w17) hk4_0_17 (by (repeat (first | exact Below.refl _ _ | assumption | (refine Below.alloc ?_ (by first | omega | (simp; done) | (simp; omega)) _) | (refine Below.setCell ?_ (by first | omega | (simp; done) | (simp; omega)) _) | (refine Below.drew ?_) | (refine Below.drewN ?_ _) | (refine Below.next (by assumption) ?_ (by first | omega | (simp; done) | (simp; omega))))))
  have hp8_0 := own_below (w' := w17) hk8_0_17 (by (repeat (first | exact Below.refl _ _ | assumption | (refine Below.alloc ?_ (by first | omega | (simp; done) | (simp; omega)) _) | (refine Below.setCell ?_ (by first | omega | (simp; done) | (simp; omega)) _) | (refine Below.drew ?_) | (refine Below.drewN ?_ _) | (refine Below.next (by assumption) ?_ (by first | omega | (simp; done) | (simp; omega))))))
  refine (markIntS_any _ _ _ L2 _ _ hp7_0 (by first | omega | exact hV0) (by omega) (by omega)).mono ?_
  rintro e w18 ⟨rfl, hm18, hg18⟩
  have hk4_0_18 := own_kept hp4_0 hg18 (fun k hk j hj => by have a1 := ho7_0.lt k hk; have a2 := ho4_0.lt j hj; (try simp at a1); (try simp at a2); omega)
  have hk8_0_18 := own_kept hp8_0 hg18 (fun k hk j hj => by have a1 := ho7_0.lt k hk; have a2 := ho8_0.lt j hj; (try simp at a1); (try simp at a2); omega)
  have hB18 : Below w.heap.size w w18 := below_grown (by (repeat (first | exact Below.refl _ _ | assumption | (refine Below.alloc ?_ (by first | omega | (simp; done) | (simp; omega)) _) | (refine Below.setCell ?_ (by first | omega | (simp; done) | (simp; omega)) _) | (refine Below.drew ?_) | (refine Below.drewN ?_ _) | (refine Below.next (by assumption) ?_ (by first | omega | (simp; done) | (simp; omega)))))) hg18 (by first | omega | (simp; omega)) (fun k hk => by have a1 := ho7_0.lt k hk; (try simp at a1); (try dsimp only); omega)
  have hz18 := hg18.size
  (try simp at hz18)
  clear hp7_0 hp4_0 hp8_0
  go_wp2_with fail
  refine (eqIntS_any _ _ _ _ _ _ _ (Mem.below (Mem.of_own hk8_0_18) (by (repeat (first | exact Below.refl _ _ | assumption | (refine Below.alloc ?_ (by first | omega | (simp; done) | (simp; omega)) _) | (refine Below.setCell ?_ (by first | omega | (simp; done) | (simp; omega)) _) | (refine Below.drew ?_) | (refine Below.drewN ?_ _) | (refine Below.next (by assumption) ?_ (by first | omega | (simp; done) | (simp; omega))))))) (Mem.below (Mem.of_own hk4_0_18) (by (repeat (first | exact Below.refl _ _ | assumption | (refine Below.alloc ?_ (by first | omega | (simp; done) | (simp; omega)) _) | (refine Below.setCell ?_ (by first | omega | (simp; done) | (simp; omega)) _) | (refine Below.drew ?_) | (refine Below.drewN ?_ _) | (refine Below.next (by assumption) ?_ (by first | omega | (simp; done) | (simp; omega))))))) (by first | omega | exact hV0) (by first | omega | exact hV0)).mono ?_
  rintro e w19 ⟨rfl, hq19⟩
  have hz19 := hq19.size
  (try simp at hz19)
  go_wp2_with fail
  have hp8_0 := own_below (w' := w19) hk8_0_18 (by (repeat (first | exact Below.refl _ _ | assumption | (refine Below.alloc ?_ (by first | omega | (simp; done) | (simp; omega)) _) | (refine Below.setCell ?_ (by first | omega | (simp; done) | (simp; omega)) _) | (refine Below.drew ?_) | (refine Below.drewN ?_ _) | (refine Below.next (by assumption) ?_ (by first | omega | (simp; done) | (simp; omega))))))
  have hp4_0 := own_below (w' := w19) hk4_0_18 (by (repeat (first | exact Below.refl _ _ | assumption | (refine Below.alloc ?_ (by first | omega | (simp; done) | (simp; omega)) _) | (refine Below.setCell ?_ (by first | omega | (simp; done) | (simp; omega)) _) | (refine Below.drew ?_) | (refine Below.drewN ?_ _) | (refine Below.next (by assumption) ?_ (by first | omega | (simp; done) | (simp; omega))))))
  refine (markIntS_any _ _ _ (lkV L0 L1 L2) 1 _ hp8_0 (by first | omega | exact hV0) (by omega) (by omega)).mono ?_
  rintro e w20 ⟨rfl, hm20, hg20⟩
  have hk4_0_20 := own_kept hp4_0 hg20 (fun k hk j hj => by have a1 := ho8_0.lt k hk; have a2 := ho4_0.lt j hj; (try simp at a1); (try simp at a2); omega)
  have hB20 : Below w.heap.size w w20 := below_grown (by (repeat (first | exact Below.refl _ _ | assumption | (refine Below.alloc ?_ (by first | omega | (simp; done) | (simp; omega)) _) | (refine Below.setCell ?_ (by first | omega | (simp; done) | (simp; omega)) _) | (refine Below.drew ?_) | (refine Below.drewN ?_ _) | (refine Below.next (by assumption) ?_ (by first | omega | (simp; done) | (simp; omega)))))) hg20 (by first | omega | (simp; omega)) (fun k hk => by have a1 := ho8_0.lt k hk; (try simp at a1); (try dsimp only); omega)
  have hz20 := hg20.size
  (try simp at hz20)
  clear hp8_0 hp4_0
  go_wp2_with fail
  refine (heldIntS_any _ _ _ _ _ (Mem.below (Mem.of_own hm20) (by (repeat (first | exact Below.refl _ _ | assumption | (refine Below.alloc ?_ (by first | omega | (simp; done) | (simp; omega)) _) | (refine Below.setCell ?_ (by first | omega | (simp; done) | (simp; omega)) _) | (refine Below.drew ?_) | (refine Below.drewN ?_ _) | (refine Below.next (by assumption) ?_ (by first | omega | (simp; done) | (simp; omega))))))) (by first | omega | exact hV0) (by omega) (by omega)).mono ?_
  rintro e w' ⟨rfl, rfl⟩
  go_wp2_with fail
  refine (toSpotS_any _ _ _ _ (m0.below (by (repeat (first | exact Below.refl _ _ | assumption | (refine Below.alloc ?_ (by first | omega | (simp; done) | (simp; omega)) _) | (refine Below.setCell ?_ (by first | omega | (simp; done) | (simp; omega)) _) | (refine Below.drew ?_) | (refine Below.drewN ?_ _) | (refine Below.next (by assumption) ?_ (by first | omega | (simp; done) | (simp; omega))))))) (by omega)).mono ?_
  rintro e w21 ⟨Ar21_0, cr21_0, rfl, ho21_0, hq21⟩
  have hz21 := hq21.size
  (try simp at hz21)
  go_wp2_with fail
  refine (toIntS_any _ _ _ _ (m1.below (by (repeat (first | exact Below.refl _ _ | assumption | (refine Below.alloc ?_ (by first | omega | (simp; done) | (simp; omega)) _) | (refine Below.setCell ?_ (by first | omega | (simp; done) | (simp; omega)) _) | (refine Below.drew ?_) | (refine Below.drewN ?_ _) | (refine Below.next (by assumption) ?_ (by first | omega | (simp; done) | (simp; omega))))))) (by omega)).mono ?_
  rintro e w22 ⟨Ar22_0, cr22_0, rfl, ho22_0, hq22⟩
  have hz22 := hq22.size
  (try simp at hz22)
  go_wp2_with fail
  refine (toIntS_any _ _ _ _ (m2.below (by (repeat (first | exact Below.refl _ _ | assumption | (refine Below.alloc ?_ (by first | omega | (simp; done) | (simp; omega)) _) | (refine Below.setCell ?_ (by first | omega | (simp; done) | (simp; omega)) _) | (refine Below.drew ?_) | (refine Below.drewN ?_ _) | (refine Below.next (by assumption) ?_ (by first | omega | (simp; done) | (simp; omega))))))) (by omega)).mono ?_
  rintro e w23 ⟨Ar23_0, cr23_0, rfl, ho23_0, hq23⟩
  have hz23 := hq23.size
  (try simp at hz23)
  go_wp2_with fail
  refine (impl_LeastCoverOf_any _ _ L0 _ _ L1 _ _ L2 _ (Mem.below (Mem.of_own ho21_0) (by (repeat (first | exact Below.refl _ _ | assumption | (refine Below.alloc ?_ (by first | omega | (simp; done) | (simp; omega)) _) | (refine Below.setCell ?_ (by first | omega | (simp; done) | (simp; omega)) _) | (refine Below.drew ?_) | (refine Below.drewN ?_ _) | (refine Below.next (by assumption) ?_ (by first | omega | (simp; done) | (simp; omega))))))) (Mem.below (Mem.of_own ho22_0) (by (repeat (first | exact Below.refl _ _ | assumption | (refine Below.alloc ?_ (by first | omega | (simp; done) | (simp; omega)) _) | (refine Below.setCell ?_ (by first | omega | (simp; done) | (simp; omega)) _) | (refine Below.drew ?_) | (refine Below.drewN ?_ _) | (refine Below.next (by assumption) ?_ (by first | omega | (simp; done) | (simp; omega))))))) (Mem.below (Mem.of_own ho23_0) (by (repeat (first | exact Below.refl _ _ | assumption | (refine Below.alloc ?_ (by first | omega | (simp; done) | (simp; omega)) _) | (refine Below.setCell ?_ (by first | omega | (simp; done) | (simp; omega)) _) | (refine Below.drew ?_) | (refine Below.drewN ?_ _) | (refine Below.next (by assumption) ?_ (by first | omega | (simp; done) | (simp; omega))))))) u0 u1 u2 (own_cap ho21_0)).mono ?_
  rintro e w24 ⟨Ar24_0, cr24_0, rfl, ho24_0, hq24⟩
  have hz24 := hq24.size
  (try simp at hz24)
  go_wp2_with fail
  refine (eqIntS_any _ _ _ _ _ _ _ (Mem.below (Mem.of_own ho24_0) (by (repeat (first | exact Below.refl _ _ | assumption | (refine Below.alloc ?_ (by first | omega | (simp; done) | (simp; omega)) _) | (refine Below.setCell ?_ (by first | omega | (simp; done) | (simp; omega)) _) | (refine Below.drew ?_) | (refine Below.drewN ?_ _) | (refine Below.next (by assumption) ?_ (by first | omega | (simp; done) | (simp; omega))))))) (Mem.below (Mem.of_own hk4_0_20) (by (repeat (first | exact Below.refl _ _ | assumption | (refine Below.alloc ?_ (by first | omega | (simp; done) | (simp; omega)) _) | (refine Below.setCell ?_ (by first | omega | (simp; done) | (simp; omega)) _) | (refine Below.drew ?_) | (refine Below.drewN ?_ _) | (refine Below.next (by assumption) ?_ (by first | omega | (simp; done) | (simp; omega))))))) (by first | omega | exact hV0) (by first | omega | exact hV0)).mono ?_
  rintro e w25 ⟨rfl, hq25⟩
  have hz25 := hq25.size
  (try simp at hz25)
  go_wp2_with fail
  refine (heldIntS_any _ _ _ _ _ (Mem.below (Mem.of_own hm20) (by (repeat (first | exact Below.refl _ _ | assumption | (refine Below.alloc ?_ (by first | omega | (simp; done) | (simp; omega)) _) | (refine Below.setCell ?_ (by first | omega | (simp; done) | (simp; omega)) _) | (refine Below.drew ?_) | (refine Below.drewN ?_ _) | (refine Below.next (by assumption) ?_ (by first | omega | (simp; done) | (simp; omega))))))) (by first | omega | exact hV0) (by omega) (by omega)).mono ?_
  rintro e w' ⟨rfl, rfl⟩
  go_wp2_with fail
  go_ret
  exact ⟨rfl, by (repeat (first | exact Below.refl _ _ | assumption | (refine Below.alloc ?_ (by first | omega | (simp; done) | (simp; omega)) _) | (refine Below.setCell ?_ (by first | omega | (simp; done) | (simp; omega)) _) | (refine Below.drew ?_) | (refine Below.drewN ?_ _) | (refine Below.next (by assumption) ?_ (by first | omega | (simp; done) | (simp; omega)))))⟩
end Go.Proofs.Ythppancpecjegaa
