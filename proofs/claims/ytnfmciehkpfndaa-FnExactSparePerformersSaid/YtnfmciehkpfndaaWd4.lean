/-
  Walks of laws: SparePerformers.
-/
import Derived.Test.YtnfmciehkpfndaaCpy
import Derived.Test.YtnfmciehkpfndaaCpySp
import Derived.Test.YtnfmciehkpfndaaAbl
import Derived.Deep.RegionHeld3
namespace Go.Proofs.Ytnfmciehkpfndaa
open Go.RowKit Go.Sort

theorem spV_le (L : List Sp) (a n : List Int) : (spV L a n).length ≤ L.length := by
  unfold spV; split
  · exact spares_len _ a n
  · simp
set_option maxHeartbeats 3200000 in
theorem FnExactSparePerformers_walk (A0 : Option Addr) (c0 : Nat) (L0 : List Sp) (A1 : Option Addr) (c1 : Nat) (L1 : List Int) (A2 : Option Addr) (c2 : Nat) (L2 : List Int) (w : World) (m0 : Mem w A0 (spots L0)) (_ : ∀ a ∈ L0, okSp a) (l0 : L0.length ≤ c0) (n0 : c0 ≤ maxLen) (m1 : Mem w A1 (ints L1)) (_ : ∀ a ∈ L1, okInt a) (l1 : L1.length ≤ c1) (n1 : c1 ≤ maxLen) (m2 : Mem w A2 (ints L2)) (_ : ∀ a ∈ L2, okInt a) (l2 : L2.length ≤ c2) (n2 : c2 ≤ maxLen) : Calls Try.prog 6 #[.slice A0 L0.length c0, .slice A1 L1.length c1, .slice A2 L2.length c2] w fun e w' => e = .returned (.bool true) ∧ Below w.heap.size w w' := by
  unfold maxLen at n0
  unfold maxLen at n1
  unfold maxLen at n2
  by_cases t1 : L1.length ≤ 1048576
  case neg =>
    go_enter Try.func6, Try.ntmps6
    go_wp2_with fail
    go_ret
    exact ⟨rfl, by (repeat (first | exact Below.refl _ _ | assumption | (refine Below.alloc ?_ (by first | omega | (simp; done) | (simp; omega)) _) | (refine Below.setCell ?_ (by first | omega | (simp; done) | (simp; omega)) _) | (refine Below.drew ?_) | (refine Below.drewN ?_ _) | (refine Below.next (by assumption) ?_ (by first | omega | (simp; done) | (simp; omega)))))⟩
  by_cases t2 : L2.length ≤ 1048576
  case neg =>
    go_enter Try.func6, Try.ntmps6
    go_wp2_with fail
    go_ret
    exact ⟨rfl, by (repeat (first | exact Below.refl _ _ | assumption | (refine Below.alloc ?_ (by first | omega | (simp; done) | (simp; omega)) _) | (refine Below.setCell ?_ (by first | omega | (simp; done) | (simp; omega)) _) | (refine Below.drew ?_) | (refine Below.drewN ?_ _) | (refine Below.next (by assumption) ?_ (by first | omega | (simp; done) | (simp; omega)))))⟩
  by_cases t0 : L0.length ≤ 1048576
  case neg =>
    go_enter Try.func6, Try.ntmps6
    go_wp2_with (first | (go_at_call 14; refine (szSpotS_yes _ _ _ _ _ (by omega) (by omega) (by omega)).mono ?_; rintro e w' ⟨rfl, rfl⟩) | (go_at_call 14; refine (szSpotS_no _ _ _ _ _ (by omega) (by omega) (by omega) (by omega)).mono ?_; rintro e w' ⟨rfl, rfl⟩))
    go_ret
    exact ⟨rfl, by (repeat (first | exact Below.refl _ _ | assumption | (refine Below.alloc ?_ (by first | omega | (simp; done) | (simp; omega)) _) | (refine Below.setCell ?_ (by first | omega | (simp; done) | (simp; omega)) _) | (refine Below.drew ?_) | (refine Below.drewN ?_ _) | (refine Below.next (by assumption) ?_ (by first | omega | (simp; done) | (simp; omega)))))⟩
  have s0 : L0.length ≤ 1048576 := by omega
  have s1 : L1.length ≤ 1048576 := by omega
  have s2 : L2.length ≤ 1048576 := by omega
  have hV : (spV L0 L1 L2).length ≤ 1048576 := Nat.le_trans (spV_le L0 L1 L2) s0
  go_enter Try.func6, Try.ntmps6
  go_wp2_with (first | (go_at_call 14; refine (szSpotS_yes _ _ _ _ _ (by omega) (by omega) (by omega)).mono ?_; rintro e w' ⟨rfl, rfl⟩))
  refine (toSpotS_any _ _ _ _ (m0.below (by (repeat (first | exact Below.refl _ _ | assumption | (refine Below.alloc ?_ (by first | omega | (simp; done) | (simp; omega)) _) | (refine Below.setCell ?_ (by first | omega | (simp; done) | (simp; omega)) _) | (refine Below.drew ?_) | (refine Below.drewN ?_ _) | (refine Below.next (by assumption) ?_ (by first | omega | (simp; done) | (simp; omega))))))) (by omega)).mono ?_
  rintro e w1 ⟨A1r, c1r, rfl, ho1, hq1⟩; have hz1 := hq1.size; (try simp at hz1); (try have gz1 : w.heap.size < w1.heap.size := by omega); (try have gz2 : w.heap.size + 1 < w1.heap.size := by omega)
  go_wp2_with fail
  refine (toIntS_any _ _ _ _ (m1.below (by (repeat (first | exact Below.refl _ _ | assumption | (refine Below.alloc ?_ (by first | omega | (simp; done) | (simp; omega)) _) | (refine Below.setCell ?_ (by first | omega | (simp; done) | (simp; omega)) _) | (refine Below.drew ?_) | (refine Below.drewN ?_ _) | (refine Below.next (by assumption) ?_ (by first | omega | (simp; done) | (simp; omega))))))) (by omega)).mono ?_
  rintro e w2 ⟨A2r, c2r, rfl, ho2, hq2⟩; have hz2 := hq2.size; (try simp at hz2); (try have gz1 : w.heap.size < w2.heap.size := by omega); (try have gz2 : w.heap.size + 1 < w2.heap.size := by omega)
  go_wp2_with fail
  refine (toIntS_any _ _ _ _ (m2.below (by (repeat (first | exact Below.refl _ _ | assumption | (refine Below.alloc ?_ (by first | omega | (simp; done) | (simp; omega)) _) | (refine Below.setCell ?_ (by first | omega | (simp; done) | (simp; omega)) _) | (refine Below.drew ?_) | (refine Below.drewN ?_ _) | (refine Below.next (by assumption) ?_ (by first | omega | (simp; done) | (simp; omega))))))) (by omega)).mono ?_
  rintro e w3 ⟨A3r, c3r, rfl, ho3, hq3⟩; have hz3 := hq3.size; (try simp at hz3); (try have gz1 : w.heap.size < w3.heap.size := by omega); (try have gz2 : w.heap.size + 1 < w3.heap.size := by omega)
  go_wp2_with fail
  refine (spec_SparePerformers_any _ _ L0 _ _ L1 _ _ L2 _ (Mem.below (Mem.of_own ho1) (by (repeat (first | exact Below.refl _ _ | assumption | (refine Below.alloc ?_ (by first | omega | (simp; done) | (simp; omega)) _) | (refine Below.setCell ?_ (by first | omega | (simp; done) | (simp; omega)) _) | (refine Below.drew ?_) | (refine Below.drewN ?_ _) | (refine Below.next (by assumption) ?_ (by first | omega | (simp; done) | (simp; omega))))))) (Mem.below (Mem.of_own ho2) (by (repeat (first | exact Below.refl _ _ | assumption | (refine Below.alloc ?_ (by first | omega | (simp; done) | (simp; omega)) _) | (refine Below.setCell ?_ (by first | omega | (simp; done) | (simp; omega)) _) | (refine Below.drew ?_) | (refine Below.drewN ?_ _) | (refine Below.next (by assumption) ?_ (by first | omega | (simp; done) | (simp; omega))))))) (Mem.below (Mem.of_own ho3) (by (repeat (first | exact Below.refl _ _ | assumption | (refine Below.alloc ?_ (by first | omega | (simp; done) | (simp; omega)) _) | (refine Below.setCell ?_ (by first | omega | (simp; done) | (simp; omega)) _) | (refine Below.drew ?_) | (refine Below.drewN ?_ _) | (refine Below.next (by assumption) ?_ (by first | omega | (simp; done) | (simp; omega))))))) s0 s1 s2 (own_cap ho1)).mono ?_
  rintro e w4 ⟨A4r, c4r, rfl, ho4, hq4⟩; have hz4 := hq4.size; (try simp at hz4); (try have gz1 : w.heap.size < w4.heap.size := by omega); (try have gz2 : w.heap.size + 1 < w4.heap.size := by omega)
  go_wp2_with fail
  refine (toSpotS_any _ _ _ _ (m0.below (by (repeat (first | exact Below.refl _ _ | assumption | (refine Below.alloc ?_ (by first | omega | (simp; done) | (simp; omega)) _) | (refine Below.setCell ?_ (by first | omega | (simp; done) | (simp; omega)) _) | (refine Below.drew ?_) | (refine Below.drewN ?_ _) | (refine Below.next (by assumption) ?_ (by first | omega | (simp; done) | (simp; omega))))))) (by omega)).mono ?_
  rintro e w5 ⟨A5r, c5r, rfl, ho5, hq5⟩; have hz5 := hq5.size; (try simp at hz5); (try have gz1 : w.heap.size < w5.heap.size := by omega); (try have gz2 : w.heap.size + 1 < w5.heap.size := by omega)
  go_wp2_with fail
  refine (toIntS_any _ _ _ _ (m1.below (by (repeat (first | exact Below.refl _ _ | assumption | (refine Below.alloc ?_ (by first | omega | (simp; done) | (simp; omega)) _) | (refine Below.setCell ?_ (by first | omega | (simp; done) | (simp; omega)) _) | (refine Below.drew ?_) | (refine Below.drewN ?_ _) | (refine Below.next (by assumption) ?_ (by first | omega | (simp; done) | (simp; omega))))))) (by omega)).mono ?_
  rintro e w6 ⟨A6r, c6r, rfl, ho6, hq6⟩; have hz6 := hq6.size; (try simp at hz6); (try have gz1 : w.heap.size < w6.heap.size := by omega); (try have gz2 : w.heap.size + 1 < w6.heap.size := by omega)
  go_wp2_with fail
  refine (toIntS_any _ _ _ _ (m2.below (by (repeat (first | exact Below.refl _ _ | assumption | (refine Below.alloc ?_ (by first | omega | (simp; done) | (simp; omega)) _) | (refine Below.setCell ?_ (by first | omega | (simp; done) | (simp; omega)) _) | (refine Below.drew ?_) | (refine Below.drewN ?_ _) | (refine Below.next (by assumption) ?_ (by first | omega | (simp; done) | (simp; omega))))))) (by omega)).mono ?_
  rintro e w7 ⟨A7r, c7r, rfl, ho7, hq7⟩; have hz7 := hq7.size; (try simp at hz7); (try have gz1 : w.heap.size < w7.heap.size := by omega); (try have gz2 : w.heap.size + 1 < w7.heap.size := by omega)
  go_wp2_with fail
  refine (impl_SparePerformers_any _ _ L0 _ _ L1 _ _ L2 _ (Mem.below (Mem.of_own ho5) (by (repeat (first | exact Below.refl _ _ | assumption | (refine Below.alloc ?_ (by first | omega | (simp; done) | (simp; omega)) _) | (refine Below.setCell ?_ (by first | omega | (simp; done) | (simp; omega)) _) | (refine Below.drew ?_) | (refine Below.drewN ?_ _) | (refine Below.next (by assumption) ?_ (by first | omega | (simp; done) | (simp; omega))))))) (Mem.below (Mem.of_own ho6) (by (repeat (first | exact Below.refl _ _ | assumption | (refine Below.alloc ?_ (by first | omega | (simp; done) | (simp; omega)) _) | (refine Below.setCell ?_ (by first | omega | (simp; done) | (simp; omega)) _) | (refine Below.drew ?_) | (refine Below.drewN ?_ _) | (refine Below.next (by assumption) ?_ (by first | omega | (simp; done) | (simp; omega))))))) (Mem.below (Mem.of_own ho7) (by (repeat (first | exact Below.refl _ _ | assumption | (refine Below.alloc ?_ (by first | omega | (simp; done) | (simp; omega)) _) | (refine Below.setCell ?_ (by first | omega | (simp; done) | (simp; omega)) _) | (refine Below.drew ?_) | (refine Below.drewN ?_ _) | (refine Below.next (by assumption) ?_ (by first | omega | (simp; done) | (simp; omega))))))) s0 s1 s2 (own_cap ho5)).mono ?_
  rintro e w8 ⟨A8r, c8r, rfl, ho8, hq8⟩; have hz8 := hq8.size; (try simp at hz8); (try have gz1 : w.heap.size < w8.heap.size := by omega); (try have gz2 : w.heap.size + 1 < w8.heap.size := by omega)
  go_wp2_with fail
  refine (eqIntS_any _ _ _ _ _ _ _ (Mem.below (Mem.of_own ho8) (by (repeat (first | exact Below.refl _ _ | assumption | (refine Below.alloc ?_ (by first | omega | (simp; done) | (simp; omega)) _) | (refine Below.setCell ?_ (by first | omega | (simp; done) | (simp; omega)) _) | (refine Below.drew ?_) | (refine Below.drewN ?_ _) | (refine Below.next (by assumption) ?_ (by first | omega | (simp; done) | (simp; omega))))))) (Mem.below (Mem.of_own ho4) (by (repeat (first | exact Below.refl _ _ | assumption | (refine Below.alloc ?_ (by first | omega | (simp; done) | (simp; omega)) _) | (refine Below.setCell ?_ (by first | omega | (simp; done) | (simp; omega)) _) | (refine Below.drew ?_) | (refine Below.drewN ?_ _) | (refine Below.next (by assumption) ?_ (by first | omega | (simp; done) | (simp; omega))))))) (by first | omega | exact hV) (by first | omega | exact hV)).mono ?_
  rintro e w9 ⟨rfl, hq9⟩; have hz9 := hq9.size; (try simp at hz9); (try have gz1 : w.heap.size < w9.heap.size := by omega); (try have gz2 : w.heap.size + 1 < w9.heap.size := by omega)
  go_wp2_with fail
  refine (toSpotS_any _ _ _ _ (m0.below (by (repeat (first | exact Below.refl _ _ | assumption | (refine Below.alloc ?_ (by first | omega | (simp; done) | (simp; omega)) _) | (refine Below.setCell ?_ (by first | omega | (simp; done) | (simp; omega)) _) | (refine Below.drew ?_) | (refine Below.drewN ?_ _) | (refine Below.next (by assumption) ?_ (by first | omega | (simp; done) | (simp; omega))))))) (by omega)).mono ?_
  rintro e w10 ⟨A10r, c10r, rfl, ho10, hq10⟩; have hz10 := hq10.size; (try simp at hz10); (try have gz1 : w.heap.size < w10.heap.size := by omega); (try have gz2 : w.heap.size + 1 < w10.heap.size := by omega)
  go_wp2_with fail
  refine (eqSpotS_any _ _ _ _ _ _ _ (Mem.below (Mem.of_own ho5) (by (repeat (first | exact Below.refl _ _ | assumption | (refine Below.alloc ?_ (by first | omega | (simp; done) | (simp; omega)) _) | (refine Below.setCell ?_ (by first | omega | (simp; done) | (simp; omega)) _) | (refine Below.drew ?_) | (refine Below.drewN ?_ _) | (refine Below.next (by assumption) ?_ (by first | omega | (simp; done) | (simp; omega))))))) (Mem.below (Mem.of_own ho10) (by (repeat (first | exact Below.refl _ _ | assumption | (refine Below.alloc ?_ (by first | omega | (simp; done) | (simp; omega)) _) | (refine Below.setCell ?_ (by first | omega | (simp; done) | (simp; omega)) _) | (refine Below.drew ?_) | (refine Below.drewN ?_ _) | (refine Below.next (by assumption) ?_ (by first | omega | (simp; done) | (simp; omega))))))) (by omega) (by omega)).mono ?_
  rintro e w11 ⟨rfl, hq11⟩; have hz11 := hq11.size; (try simp at hz11); (try have gz1 : w.heap.size < w11.heap.size := by omega); (try have gz2 : w.heap.size + 1 < w11.heap.size := by omega)
  go_wp2_with fail
  refine (toIntS_any _ _ _ _ (m1.below (by (repeat (first | exact Below.refl _ _ | assumption | (refine Below.alloc ?_ (by first | omega | (simp; done) | (simp; omega)) _) | (refine Below.setCell ?_ (by first | omega | (simp; done) | (simp; omega)) _) | (refine Below.drew ?_) | (refine Below.drewN ?_ _) | (refine Below.next (by assumption) ?_ (by first | omega | (simp; done) | (simp; omega))))))) (by omega)).mono ?_
  rintro e w12 ⟨A12r, c12r, rfl, ho12, hq12⟩; have hz12 := hq12.size; (try simp at hz12); (try have gz1 : w.heap.size < w12.heap.size := by omega); (try have gz2 : w.heap.size + 1 < w12.heap.size := by omega)
  go_wp2_with fail
  refine (eqIntS_any _ _ _ _ _ _ _ (Mem.below (Mem.of_own ho6) (by (repeat (first | exact Below.refl _ _ | assumption | (refine Below.alloc ?_ (by first | omega | (simp; done) | (simp; omega)) _) | (refine Below.setCell ?_ (by first | omega | (simp; done) | (simp; omega)) _) | (refine Below.drew ?_) | (refine Below.drewN ?_ _) | (refine Below.next (by assumption) ?_ (by first | omega | (simp; done) | (simp; omega))))))) (Mem.below (Mem.of_own ho12) (by (repeat (first | exact Below.refl _ _ | assumption | (refine Below.alloc ?_ (by first | omega | (simp; done) | (simp; omega)) _) | (refine Below.setCell ?_ (by first | omega | (simp; done) | (simp; omega)) _) | (refine Below.drew ?_) | (refine Below.drewN ?_ _) | (refine Below.next (by assumption) ?_ (by first | omega | (simp; done) | (simp; omega))))))) (by omega) (by omega)).mono ?_
  rintro e w13 ⟨rfl, hq13⟩; have hz13 := hq13.size; (try simp at hz13); (try have gz1 : w.heap.size < w13.heap.size := by omega); (try have gz2 : w.heap.size + 1 < w13.heap.size := by omega)
  go_wp2_with fail
  refine (toIntS_any _ _ _ _ (m2.below (by (repeat (first | exact Below.refl _ _ | assumption | (refine Below.alloc ?_ (by first | omega | (simp; done) | (simp; omega)) _) | (refine Below.setCell ?_ (by first | omega | (simp; done) | (simp; omega)) _) | (refine Below.drew ?_) | (refine Below.drewN ?_ _) | (refine Below.next (by assumption) ?_ (by first | omega | (simp; done) | (simp; omega))))))) (by omega)).mono ?_
  rintro e w14 ⟨A14r, c14r, rfl, ho14, hq14⟩; have hz14 := hq14.size; (try simp at hz14); (try have gz1 : w.heap.size < w14.heap.size := by omega); (try have gz2 : w.heap.size + 1 < w14.heap.size := by omega)
  go_wp2_with fail
  refine (eqIntS_any _ _ _ _ _ _ _ (Mem.below (Mem.of_own ho7) (by (repeat (first | exact Below.refl _ _ | assumption | (refine Below.alloc ?_ (by first | omega | (simp; done) | (simp; omega)) _) | (refine Below.setCell ?_ (by first | omega | (simp; done) | (simp; omega)) _) | (refine Below.drew ?_) | (refine Below.drewN ?_ _) | (refine Below.next (by assumption) ?_ (by first | omega | (simp; done) | (simp; omega))))))) (Mem.below (Mem.of_own ho14) (by (repeat (first | exact Below.refl _ _ | assumption | (refine Below.alloc ?_ (by first | omega | (simp; done) | (simp; omega)) _) | (refine Below.setCell ?_ (by first | omega | (simp; done) | (simp; omega)) _) | (refine Below.drew ?_) | (refine Below.drewN ?_ _) | (refine Below.next (by assumption) ?_ (by first | omega | (simp; done) | (simp; omega))))))) (by omega) (by omega)).mono ?_
  rintro e w15 ⟨rfl, hq15⟩; have hz15 := hq15.size; (try simp at hz15); (try have gz1 : w.heap.size < w15.heap.size := by omega); (try have gz2 : w.heap.size + 1 < w15.heap.size := by omega)
  go_wp2_with fail
  have hp5 := own_below (w' := w15) ho5 (by (repeat (first | exact Below.refl _ _ | assumption | (refine Below.alloc ?_ (by first | omega | (simp; done) | (simp; omega)) _) | (refine Below.setCell ?_ (by first | omega | (simp; done) | (simp; omega)) _) | (refine Below.drew ?_) | (refine Below.drewN ?_ _) | (refine Below.next (by assumption) ?_ (by first | omega | (simp; done) | (simp; omega))))))
  have hp4 := own_below (w' := w15) ho4 (by (repeat (first | exact Below.refl _ _ | assumption | (refine Below.alloc ?_ (by first | omega | (simp; done) | (simp; omega)) _) | (refine Below.setCell ?_ (by first | omega | (simp; done) | (simp; omega)) _) | (refine Below.drew ?_) | (refine Below.drewN ?_ _) | (refine Below.next (by assumption) ?_ (by first | omega | (simp; done) | (simp; omega))))))
  have hp8 := own_below (w' := w15) ho8 (by (repeat (first | exact Below.refl _ _ | assumption | (refine Below.alloc ?_ (by first | omega | (simp; done) | (simp; omega)) _) | (refine Below.setCell ?_ (by first | omega | (simp; done) | (simp; omega)) _) | (refine Below.drew ?_) | (refine Below.drewN ?_ _) | (refine Below.next (by assumption) ?_ (by first | omega | (simp; done) | (simp; omega))))))
  have hp6 := own_below (w' := w15) ho6 (by (repeat (first | exact Below.refl _ _ | assumption | (refine Below.alloc ?_ (by first | omega | (simp; done) | (simp; omega)) _) | (refine Below.setCell ?_ (by first | omega | (simp; done) | (simp; omega)) _) | (refine Below.drew ?_) | (refine Below.drewN ?_ _) | (refine Below.next (by assumption) ?_ (by first | omega | (simp; done) | (simp; omega))))))
  have hp7 := own_below (w' := w15) ho7 (by (repeat (first | exact Below.refl _ _ | assumption | (refine Below.alloc ?_ (by first | omega | (simp; done) | (simp; omega)) _) | (refine Below.setCell ?_ (by first | omega | (simp; done) | (simp; omega)) _) | (refine Below.drew ?_) | (refine Below.drewN ?_ _) | (refine Below.next (by assumption) ?_ (by first | omega | (simp; done) | (simp; omega))))))
  refine (markSpotS_any _ _ _ _ 1 _ hp5 (by first | omega | exact hV) (by omega) (by omega)).mono ?_
  rintro e w16 ⟨rfl, hm16, hg16⟩
  have hk4_16 := own_kept hp4 hg16 (fun k hk j hj => by have a1 := ho5.lt k hk; have a2 := ho4.lt j hj; (try simp at a1); (try simp at a2); omega)
  have hk8_16 := own_kept hp8 hg16 (fun k hk j hj => by have a1 := ho5.lt k hk; have a2 := ho8.lt j hj; (try simp at a1); (try simp at a2); omega)
  have hk6_16 := own_kept hp6 hg16 (fun k hk j hj => by have a1 := ho5.lt k hk; have a2 := ho6.lt j hj; (try simp at a1); (try simp at a2); omega)
  have hk7_16 := own_kept hp7 hg16 (fun k hk j hj => by have a1 := ho5.lt k hk; have a2 := ho7.lt j hj; (try simp at a1); (try simp at a2); omega)
  have hB16 : Below w.heap.size w w16 := below_grown (by (repeat (first | exact Below.refl _ _ | assumption | (refine Below.alloc ?_ (by first | omega | (simp; done) | (simp; omega)) _) | (refine Below.setCell ?_ (by first | omega | (simp; done) | (simp; omega)) _) | (refine Below.drew ?_) | (refine Below.drewN ?_ _) | (refine Below.next (by assumption) ?_ (by first | omega | (simp; done) | (simp; omega)))))) hg16 (by first | omega | (simp; omega)) (fun k hk => by have a1 := ho5.lt k hk; (try simp at a1); (try dsimp only); omega)
  have hz16 := hg16.size
  (try simp at hz16)
  (try have gz1 : w.heap.size < w16.heap.size := by omega); (try have gz2 : w.heap.size + 1 < w16.heap.size := by omega)
  clear hp5 hp4 hp8 hp6 hp7
  go_wp2_with fail
  have hp6 := own_below (w' := w16) hk6_16 (by (repeat (first | exact Below.refl _ _ | assumption | (refine Below.alloc ?_ (by first | omega | (simp; done) | (simp; omega)) _) | (refine Below.setCell ?_ (by first | omega | (simp; done) | (simp; omega)) _) | (refine Below.drew ?_) | (refine Below.drewN ?_ _) | (refine Below.next (by assumption) ?_ (by first | omega | (simp; done) | (simp; omega))))))
  have hp4 := own_below (w' := w16) hk4_16 (by (repeat (first | exact Below.refl _ _ | assumption | (refine Below.alloc ?_ (by first | omega | (simp; done) | (simp; omega)) _) | (refine Below.setCell ?_ (by first | omega | (simp; done) | (simp; omega)) _) | (refine Below.drew ?_) | (refine Below.drewN ?_ _) | (refine Below.next (by assumption) ?_ (by first | omega | (simp; done) | (simp; omega))))))
  have hp8 := own_below (w' := w16) hk8_16 (by (repeat (first | exact Below.refl _ _ | assumption | (refine Below.alloc ?_ (by first | omega | (simp; done) | (simp; omega)) _) | (refine Below.setCell ?_ (by first | omega | (simp; done) | (simp; omega)) _) | (refine Below.drew ?_) | (refine Below.drewN ?_ _) | (refine Below.next (by assumption) ?_ (by first | omega | (simp; done) | (simp; omega))))))
  have hp7 := own_below (w' := w16) hk7_16 (by (repeat (first | exact Below.refl _ _ | assumption | (refine Below.alloc ?_ (by first | omega | (simp; done) | (simp; omega)) _) | (refine Below.setCell ?_ (by first | omega | (simp; done) | (simp; omega)) _) | (refine Below.drew ?_) | (refine Below.drewN ?_ _) | (refine Below.next (by assumption) ?_ (by first | omega | (simp; done) | (simp; omega))))))
  refine (markIntS_any _ _ _ _ _ _ hp6 (by first | omega | exact hV) (by omega) (by omega)).mono ?_
  rintro e w17 ⟨rfl, hm17, hg17⟩
  have hk4_17 := own_kept hp4 hg17 (fun k hk j hj => by have a1 := ho6.lt k hk; have a2 := ho4.lt j hj; (try simp at a1); (try simp at a2); omega)
  have hk8_17 := own_kept hp8 hg17 (fun k hk j hj => by have a1 := ho6.lt k hk; have a2 := ho8.lt j hj; (try simp at a1); (try simp at a2); omega)
  have hk7_17 := own_kept hp7 hg17 (fun k hk j hj => by have a1 := ho6.lt k hk; have a2 := ho7.lt j hj; (try simp at a1); (try simp at a2); omega)
  have hB17 : Below w.heap.size w w17 := below_grown (by (repeat (first | exact Below.refl _ _ | assumption | (refine Below.alloc ?_ (by first | omega | (simp; done) | (simp; omega)) _) | (refine Below.setCell ?_ (by first | omega | (simp; done) | (simp; omega)) _) | (refine Below.drew ?_) | (refine Below.drewN ?_ _) | (refine Below.next (by assumption) ?_ (by first | omega | (simp; done) | (simp; omega)))))) hg17 (by first | omega | (simp; omega)) (fun k hk => by have a1 := ho6.lt k hk; (try simp at a1); (try dsimp only); omega)
  have hz17 := hg17.size
  (try simp at hz17)
  (try have gz1 : w.heap.size < w17.heap.size := by omega); (try have gz2 : w.heap.size + 1 < w17.heap.size := by omega)
  clear hp6 hp4 hp8 hp7
  go_wp2_with fail
  have hp7 := own_below (w' := w17) hk7_17 (by (repeat (first | exact Below.refl _ _ | assumption | (refine Below.alloc ?_ (by first | omega | (simp; done) | (simp; omega)) _) | (refine Below.setCell ?_ (by first | omega | (simp; done) | (simp; omega)) _) | (refine Below.drew ?_) | (refine Below.drewN ?_ _) | (refine Below.next (by assumption) ?_ (by first | omega | (simp; done) | (simp; omega))))))
  have hp4 := own_below (w' := w17) hk4_17 (by (repeat (first | exact Below.refl _ _ | assumption | (refine Below.alloc ?_ (by first | omega | (simp; done) | (simp; omega)) _) | (refine Below.setCell ?_ (by first | omega | (simp; done) | (simp; omega)) _) | (refine Below.drew ?_) | (refine Below.drewN ?_ _) | (refine Below.next (by assumption) ?_ (by first | omega | (simp; done) | (simp; omega))))))
  have hp8 := own_below (w' := w17) hk8_17 (by (repeat (first | exact Below.refl _ _ | assumption | (refine Below.alloc ?_ (by first | omega | (simp; done) | (simp; omega)) _) | (refine Below.setCell ?_ (by first | omega | (simp; done) | (simp; omega)) _) | (refine Below.drew ?_) | (refine Below.drewN ?_ _) | (refine Below.next (by assumption) ?_ (by first | omega | (simp; done) | (simp; omega))))))
  refine (markIntS_any _ _ _ _ _ _ hp7 (by first | omega | exact hV) (by omega) (by omega)).mono ?_
  rintro e w18 ⟨rfl, hm18, hg18⟩
  have hk4_18 := own_kept hp4 hg18 (fun k hk j hj => by have a1 := ho7.lt k hk; have a2 := ho4.lt j hj; (try simp at a1); (try simp at a2); omega)
  have hk8_18 := own_kept hp8 hg18 (fun k hk j hj => by have a1 := ho7.lt k hk; have a2 := ho8.lt j hj; (try simp at a1); (try simp at a2); omega)
  have hB18 : Below w.heap.size w w18 := below_grown (by (repeat (first | exact Below.refl _ _ | assumption | (refine Below.alloc ?_ (by first | omega | (simp; done) | (simp; omega)) _) | (refine Below.setCell ?_ (by first | omega | (simp; done) | (simp; omega)) _) | (refine Below.drew ?_) | (refine Below.drewN ?_ _) | (refine Below.next (by assumption) ?_ (by first | omega | (simp; done) | (simp; omega)))))) hg18 (by first | omega | (simp; omega)) (fun k hk => by have a1 := ho7.lt k hk; (try simp at a1); (try dsimp only); omega)
  have hz18 := hg18.size
  (try simp at hz18)
  (try have gz1 : w.heap.size < w18.heap.size := by omega); (try have gz2 : w.heap.size + 1 < w18.heap.size := by omega)
  clear hp7 hp4 hp8
  go_wp2_with fail
  refine (eqIntS_any _ _ _ _ _ _ _ (Mem.below (Mem.of_own hk8_18) (by (repeat (first | exact Below.refl _ _ | assumption | (refine Below.alloc ?_ (by first | omega | (simp; done) | (simp; omega)) _) | (refine Below.setCell ?_ (by first | omega | (simp; done) | (simp; omega)) _) | (refine Below.drew ?_) | (refine Below.drewN ?_ _) | (refine Below.next (by assumption) ?_ (by first | omega | (simp; done) | (simp; omega))))))) (Mem.below (Mem.of_own hk4_18) (by (repeat (first | exact Below.refl _ _ | assumption | (refine Below.alloc ?_ (by first | omega | (simp; done) | (simp; omega)) _) | (refine Below.setCell ?_ (by first | omega | (simp; done) | (simp; omega)) _) | (refine Below.drew ?_) | (refine Below.drewN ?_ _) | (refine Below.next (by assumption) ?_ (by first | omega | (simp; done) | (simp; omega))))))) (by first | omega | exact hV) (by first | omega | exact hV)).mono ?_
  rintro e w19 ⟨rfl, hq19⟩; have hz19 := hq19.size; (try simp at hz19); (try have gz1 : w.heap.size < w19.heap.size := by omega); (try have gz2 : w.heap.size + 1 < w19.heap.size := by omega)
  go_wp2_with fail
  have hp8 := own_below (w' := w19) hk8_18 (by (repeat (first | exact Below.refl _ _ | assumption | (refine Below.alloc ?_ (by first | omega | (simp; done) | (simp; omega)) _) | (refine Below.setCell ?_ (by first | omega | (simp; done) | (simp; omega)) _) | (refine Below.drew ?_) | (refine Below.drewN ?_ _) | (refine Below.next (by assumption) ?_ (by first | omega | (simp; done) | (simp; omega))))))
  have hp4 := own_below (w' := w19) hk4_18 (by (repeat (first | exact Below.refl _ _ | assumption | (refine Below.alloc ?_ (by first | omega | (simp; done) | (simp; omega)) _) | (refine Below.setCell ?_ (by first | omega | (simp; done) | (simp; omega)) _) | (refine Below.drew ?_) | (refine Below.drewN ?_ _) | (refine Below.next (by assumption) ?_ (by first | omega | (simp; done) | (simp; omega))))))
  refine (markIntS_any _ _ _ _ 1 _ hp8 (by first | omega | exact hV) (by omega) (by omega)).mono ?_
  rintro e w20 ⟨rfl, hm20, hg20⟩
  have hk4_20 := own_kept hp4 hg20 (fun k hk j hj => by have a1 := ho8.lt k hk; have a2 := ho4.lt j hj; (try simp at a1); (try simp at a2); omega)
  have hB20 : Below w.heap.size w w20 := below_grown (by (repeat (first | exact Below.refl _ _ | assumption | (refine Below.alloc ?_ (by first | omega | (simp; done) | (simp; omega)) _) | (refine Below.setCell ?_ (by first | omega | (simp; done) | (simp; omega)) _) | (refine Below.drew ?_) | (refine Below.drewN ?_ _) | (refine Below.next (by assumption) ?_ (by first | omega | (simp; done) | (simp; omega)))))) hg20 (by first | omega | (simp; omega)) (fun k hk => by have a1 := ho8.lt k hk; (try simp at a1); (try dsimp only); omega)
  have hz20 := hg20.size
  (try simp at hz20)
  (try have gz1 : w.heap.size < w20.heap.size := by omega); (try have gz2 : w.heap.size + 1 < w20.heap.size := by omega)
  clear hp8 hp4
  go_wp2_with fail
  refine (heldIntS_any _ _ _ _ _ (Mem.below (Mem.of_own hm20) (by (repeat (first | exact Below.refl _ _ | assumption | (refine Below.alloc ?_ (by first | omega | (simp; done) | (simp; omega)) _) | (refine Below.setCell ?_ (by first | omega | (simp; done) | (simp; omega)) _) | (refine Below.drew ?_) | (refine Below.drewN ?_ _) | (refine Below.next (by assumption) ?_ (by first | omega | (simp; done) | (simp; omega))))))) (by first | omega | exact hV) (by omega) (by omega)).mono ?_
  rintro e w21 ⟨rfl, rfl⟩
  go_wp2_with fail
  refine (toSpotS_any _ _ _ _ (m0.below (by (repeat (first | exact Below.refl _ _ | assumption | (refine Below.alloc ?_ (by first | omega | (simp; done) | (simp; omega)) _) | (refine Below.setCell ?_ (by first | omega | (simp; done) | (simp; omega)) _) | (refine Below.drew ?_) | (refine Below.drewN ?_ _) | (refine Below.next (by assumption) ?_ (by first | omega | (simp; done) | (simp; omega))))))) (by omega)).mono ?_
  rintro e w22 ⟨A22r, c22r, rfl, ho22, hq22⟩; have hz22 := hq22.size; (try simp at hz22); (try have gz1 : w.heap.size < w22.heap.size := by omega); (try have gz2 : w.heap.size + 1 < w22.heap.size := by omega)
  go_wp2_with fail
  refine (toIntS_any _ _ _ _ (m1.below (by (repeat (first | exact Below.refl _ _ | assumption | (refine Below.alloc ?_ (by first | omega | (simp; done) | (simp; omega)) _) | (refine Below.setCell ?_ (by first | omega | (simp; done) | (simp; omega)) _) | (refine Below.drew ?_) | (refine Below.drewN ?_ _) | (refine Below.next (by assumption) ?_ (by first | omega | (simp; done) | (simp; omega))))))) (by omega)).mono ?_
  rintro e w23 ⟨A23r, c23r, rfl, ho23, hq23⟩; have hz23 := hq23.size; (try simp at hz23); (try have gz1 : w.heap.size < w23.heap.size := by omega); (try have gz2 : w.heap.size + 1 < w23.heap.size := by omega)
  go_wp2_with fail
  refine (toIntS_any _ _ _ _ (m2.below (by (repeat (first | exact Below.refl _ _ | assumption | (refine Below.alloc ?_ (by first | omega | (simp; done) | (simp; omega)) _) | (refine Below.setCell ?_ (by first | omega | (simp; done) | (simp; omega)) _) | (refine Below.drew ?_) | (refine Below.drewN ?_ _) | (refine Below.next (by assumption) ?_ (by first | omega | (simp; done) | (simp; omega))))))) (by omega)).mono ?_
  rintro e w24 ⟨A24r, c24r, rfl, ho24, hq24⟩; have hz24 := hq24.size; (try simp at hz24); (try have gz1 : w.heap.size < w24.heap.size := by omega); (try have gz2 : w.heap.size + 1 < w24.heap.size := by omega)
  go_wp2_with fail
  refine (impl_SparePerformers_any _ _ L0 _ _ L1 _ _ L2 _ (Mem.below (Mem.of_own ho22) (by (repeat (first | exact Below.refl _ _ | assumption | (refine Below.alloc ?_ (by first | omega | (simp; done) | (simp; omega)) _) | (refine Below.setCell ?_ (by first | omega | (simp; done) | (simp; omega)) _) | (refine Below.drew ?_) | (refine Below.drewN ?_ _) | (refine Below.next (by assumption) ?_ (by first | omega | (simp; done) | (simp; omega))))))) (Mem.below (Mem.of_own ho23) (by (repeat (first | exact Below.refl _ _ | assumption | (refine Below.alloc ?_ (by first | omega | (simp; done) | (simp; omega)) _) | (refine Below.setCell ?_ (by first | omega | (simp; done) | (simp; omega)) _) | (refine Below.drew ?_) | (refine Below.drewN ?_ _) | (refine Below.next (by assumption) ?_ (by first | omega | (simp; done) | (simp; omega))))))) (Mem.below (Mem.of_own ho24) (by (repeat (first | exact Below.refl _ _ | assumption | (refine Below.alloc ?_ (by first | omega | (simp; done) | (simp; omega)) _) | (refine Below.setCell ?_ (by first | omega | (simp; done) | (simp; omega)) _) | (refine Below.drew ?_) | (refine Below.drewN ?_ _) | (refine Below.next (by assumption) ?_ (by first | omega | (simp; done) | (simp; omega))))))) s0 s1 s2 (own_cap ho22)).mono ?_
  rintro e w25 ⟨A25r, c25r, rfl, ho25, hq25⟩; have hz25 := hq25.size; (try simp at hz25); (try have gz1 : w.heap.size < w25.heap.size := by omega); (try have gz2 : w.heap.size + 1 < w25.heap.size := by omega)
  go_wp2_with fail
  refine (eqIntS_any _ _ _ _ _ _ _ (Mem.below (Mem.of_own ho25) (by (repeat (first | exact Below.refl _ _ | assumption | (refine Below.alloc ?_ (by first | omega | (simp; done) | (simp; omega)) _) | (refine Below.setCell ?_ (by first | omega | (simp; done) | (simp; omega)) _) | (refine Below.drew ?_) | (refine Below.drewN ?_ _) | (refine Below.next (by assumption) ?_ (by first | omega | (simp; done) | (simp; omega))))))) (Mem.below (Mem.of_own hk4_20) (by (repeat (first | exact Below.refl _ _ | assumption | (refine Below.alloc ?_ (by first | omega | (simp; done) | (simp; omega)) _) | (refine Below.setCell ?_ (by first | omega | (simp; done) | (simp; omega)) _) | (refine Below.drew ?_) | (refine Below.drewN ?_ _) | (refine Below.next (by assumption) ?_ (by first | omega | (simp; done) | (simp; omega))))))) (by first | omega | exact hV) (by first | omega | exact hV)).mono ?_
  rintro e w26 ⟨rfl, hq26⟩; have hz26 := hq26.size; (try simp at hz26); (try have gz1 : w.heap.size < w26.heap.size := by omega); (try have gz2 : w.heap.size + 1 < w26.heap.size := by omega)
  go_wp2_with fail
  refine (heldIntS_any _ _ _ _ _ (Mem.below (Mem.of_own hm20) (by (repeat (first | exact Below.refl _ _ | assumption | (refine Below.alloc ?_ (by first | omega | (simp; done) | (simp; omega)) _) | (refine Below.setCell ?_ (by first | omega | (simp; done) | (simp; omega)) _) | (refine Below.drew ?_) | (refine Below.drewN ?_ _) | (refine Below.next (by assumption) ?_ (by first | omega | (simp; done) | (simp; omega))))))) (by first | omega | exact hV) (by omega) (by omega)).mono ?_
  rintro e w27 ⟨rfl, rfl⟩
  go_wp2_with fail
  go_ret
  exact ⟨rfl, by (repeat (first | exact Below.refl _ _ | assumption | (refine Below.alloc ?_ (by first | omega | (simp; done) | (simp; omega)) _) | (refine Below.setCell ?_ (by first | omega | (simp; done) | (simp; omega)) _) | (refine Below.drew ?_) | (refine Below.drewN ?_ _) | (refine Below.next (by assumption) ?_ (by first | omega | (simp; done) | (simp; omega)))))⟩
end Go.Proofs.Ytnfmciehkpfndaa
