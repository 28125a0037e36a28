/-
  The walk of the law FnExactEntryTimes.
-/
import Derived.Test.YtfjoggkielpipaaCpy
import Derived.Test.YtfjoggkielpipaaCpySp
import Derived.Test.YtfjoggkielpipaaEnt
import Derived.Deep.RegionHeld3
namespace Go.Proofs.Ytfjoggkielpipaa
open Go.RowKit Go.Sort


set_option maxHeartbeats 3200000 in
theorem FnExactEntryTimes_walk (A0 : Option Addr) (c0 : Nat) (L0 : List Ms) (a1 : Int) (A2 : Option Addr) (c2 : Nat) (L2 : List Int) (w : World) (m0 : Mem w A0 (measures L0)) (_ : ∀ a ∈ L0, okMs a) (l0 : L0.length ≤ c0) (n0 : c0 ≤ maxLen) (_ : okInt a1) (m2 : Mem w A2 (ints L2)) (_ : ∀ a ∈ L2, okInt a) (l2 : L2.length ≤ c2) (n2 : c2 ≤ maxLen) : Calls Try.prog 9 #[.slice A0 L0.length c0, .int .i64 a1, .slice A2 L2.length c2] w fun e w' => e = .returned (.bool true) ∧ Below w.heap.size w w' := by
  unfold maxLen at n0
  unfold maxLen at n2
  by_cases t2 : L2.length ≤ 1048576
  case neg =>
    go_enter Try.func9, Try.ntmps9
    go_wp2_with fail
    go_ret
    exact ⟨rfl, by (repeat (first | exact Below.refl _ _ | assumption | (refine Below.alloc ?_ (by first | omega | (simp; done) | (simp; omega)) _) | (refine Below.setCell ?_ (by first | omega | (simp; done) | (simp; omega)) _) | (refine Below.drew ?_) | (refine Below.drewN ?_ _) | (refine Below.next (by assumption) ?_ (by first | omega | (simp; done) | (simp; omega)))))⟩
  by_cases t0 : L0.length ≤ 1048576
  case neg =>
    go_enter Try.func9, Try.ntmps9
    go_wp2_with (first | (go_at_call 35; refine (szMeasureS_yes _ _ _ _ _ (by omega) (by omega) (by omega)).mono ?_; rintro e w' ⟨rfl, rfl⟩) | (go_at_call 35; refine (szMeasureS_no _ _ _ _ _ (by omega) (by omega) (by omega) (by omega)).mono ?_; rintro e w' ⟨rfl, rfl⟩))
    go_ret
    exact ⟨rfl, by (repeat (first | exact Below.refl _ _ | assumption | (refine Below.alloc ?_ (by first | omega | (simp; done) | (simp; omega)) _) | (refine Below.setCell ?_ (by first | omega | (simp; done) | (simp; omega)) _) | (refine Below.drew ?_) | (refine Below.drewN ?_ _) | (refine Below.next (by assumption) ?_ (by first | omega | (simp; done) | (simp; omega)))))⟩
  have s0 : L0.length ≤ 1048576 := by omega
  have s2 : L2.length ≤ 1048576 := by omega
  have hV : (etV L0 a1 L2).length ≤ 1048576 := Nat.le_trans (etV_le L0 a1 L2) s2
  go_enter Try.func9, Try.ntmps9
  go_wp2_with (first | (go_at_call 35; refine (szMeasureS_yes _ _ _ _ _ (by omega) (by omega) (by omega)).mono ?_; rintro e w' ⟨rfl, rfl⟩))
  refine (toMeasureS_any _ _ _ _ (m0.below (by (repeat (first | exact Below.refl _ _ | assumption | (refine Below.alloc ?_ (by first | omega | (simp; done) | (simp; omega)) _) | (refine Below.setCell ?_ (by first | omega | (simp; done) | (simp; omega)) _) | (refine Below.drew ?_) | (refine Below.drewN ?_ _) | (refine Below.next (by assumption) ?_ (by first | omega | (simp; done) | (simp; omega))))))) (by omega)).mono ?_
  rintro e w1 ⟨A1r, c1r, rfl, ho1, hq1⟩; have hz1 := hq1.size; (try simp at hz1); (try have gz1 : w.heap.size < w1.heap.size := by omega); (try have gz2 : w.heap.size + 1 < w1.heap.size := by omega)
  go_wp2_with fail
  refine (toIntS_any _ _ _ _ (m2.below (by (repeat (first | exact Below.refl _ _ | assumption | (refine Below.alloc ?_ (by first | omega | (simp; done) | (simp; omega)) _) | (refine Below.setCell ?_ (by first | omega | (simp; done) | (simp; omega)) _) | (refine Below.drew ?_) | (refine Below.drewN ?_ _) | (refine Below.next (by assumption) ?_ (by first | omega | (simp; done) | (simp; omega))))))) (by omega)).mono ?_
  rintro e w2 ⟨A2r, c2r, rfl, ho2, hq2⟩; have hz2 := hq2.size; (try simp at hz2); (try have gz1 : w.heap.size < w2.heap.size := by omega); (try have gz2 : w.heap.size + 1 < w2.heap.size := by omega)
  go_wp2_with fail
  refine (spec_EntryTimes_any _ _ L0 a1 _ _ L2 _ (Mem.below (Mem.of_own ho1) (by (repeat (first | exact Below.refl _ _ | assumption | (refine Below.alloc ?_ (by first | omega | (simp; done) | (simp; omega)) _) | (refine Below.setCell ?_ (by first | omega | (simp; done) | (simp; omega)) _) | (refine Below.drew ?_) | (refine Below.drewN ?_ _) | (refine Below.next (by assumption) ?_ (by first | omega | (simp; done) | (simp; omega))))))) (Mem.below (Mem.of_own ho2) (by (repeat (first | exact Below.refl _ _ | assumption | (refine Below.alloc ?_ (by first | omega | (simp; done) | (simp; omega)) _) | (refine Below.setCell ?_ (by first | omega | (simp; done) | (simp; omega)) _) | (refine Below.drew ?_) | (refine Below.drewN ?_ _) | (refine Below.next (by assumption) ?_ (by first | omega | (simp; done) | (simp; omega))))))) s0 s2).mono ?_
  rintro e w3 ⟨A3r, c3r, rfl, ho3, hq3⟩; have hz3 := hq3.size; (try simp at hz3); (try have gz1 : w.heap.size < w3.heap.size := by omega); (try have gz2 : w.heap.size + 1 < w3.heap.size := by omega)
  go_wp2_with fail
  refine (toMeasureS_any _ _ _ _ (m0.below (by (repeat (first | exact Below.refl _ _ | assumption | (refine Below.alloc ?_ (by first | omega | (simp; done) | (simp; omega)) _) | (refine Below.setCell ?_ (by first | omega | (simp; done) | (simp; omega)) _) | (refine Below.drew ?_) | (refine Below.drewN ?_ _) | (refine Below.next (by assumption) ?_ (by first | omega | (simp; done) | (simp; omega))))))) (by omega)).mono ?_
  rintro e w4 ⟨A4r, c4r, rfl, ho4, hq4⟩; have hz4 := hq4.size; (try simp at hz4); (try have gz1 : w.heap.size < w4.heap.size := by omega); (try have gz2 : w.heap.size + 1 < w4.heap.size := by omega)
  go_wp2_with fail
  refine (toIntS_any _ _ _ _ (m2.below (by (repeat (first | exact Below.refl _ _ | assumption | (refine Below.alloc ?_ (by first | omega | (simp; done) | (simp; omega)) _) | (refine Below.setCell ?_ (by first | omega | (simp; done) | (simp; omega)) _) | (refine Below.drew ?_) | (refine Below.drewN ?_ _) | (refine Below.next (by assumption) ?_ (by first | omega | (simp; done) | (simp; omega))))))) (by omega)).mono ?_
  rintro e w5 ⟨A5r, c5r, rfl, ho5, hq5⟩; have hz5 := hq5.size; (try simp at hz5); (try have gz1 : w.heap.size < w5.heap.size := by omega); (try have gz2 : w.heap.size + 1 < w5.heap.size := by omega)
  go_wp2_with fail
  refine (impl_EntryTimes_any _ _ L0 a1 _ _ L2 _ (Mem.below (Mem.of_own ho4) (by (repeat (first | exact Below.refl _ _ | assumption | (refine Below.alloc ?_ (by first | omega | (simp; done) | (simp; omega)) _) | (refine Below.setCell ?_ (by first | omega | (simp; done) | (simp; omega)) _) | (refine Below.drew ?_) | (refine Below.drewN ?_ _) | (refine Below.next (by assumption) ?_ (by first | omega | (simp; done) | (simp; omega))))))) (Mem.below (Mem.of_own ho5) (by (repeat (first | exact Below.refl _ _ | assumption | (refine Below.alloc ?_ (by first | omega | (simp; done) | (simp; omega)) _) | (refine Below.setCell ?_ (by first | omega | (simp; done) | (simp; omega)) _) | (refine Below.drew ?_) | (refine Below.drewN ?_ _) | (refine Below.next (by assumption) ?_ (by first | omega | (simp; done) | (simp; omega))))))) s0 s2).mono ?_
  rintro e w6 ⟨A6r, c6r, rfl, ho6, hq6⟩; have hz6 := hq6.size; (try simp at hz6); (try have gz1 : w.heap.size < w6.heap.size := by omega); (try have gz2 : w.heap.size + 1 < w6.heap.size := by omega)
  go_wp2_with fail
  refine (eqIntS_any _ _ _ _ _ _ _ (Mem.below (Mem.of_own ho6) (by (repeat (first | exact Below.refl _ _ | assumption | (refine Below.alloc ?_ (by first | omega | (simp; done) | (simp; omega)) _) | (refine Below.setCell ?_ (by first | omega | (simp; done) | (simp; omega)) _) | (refine Below.drew ?_) | (refine Below.drewN ?_ _) | (refine Below.next (by assumption) ?_ (by first | omega | (simp; done) | (simp; omega))))))) (Mem.below (Mem.of_own ho3) (by (repeat (first | exact Below.refl _ _ | assumption | (refine Below.alloc ?_ (by first | omega | (simp; done) | (simp; omega)) _) | (refine Below.setCell ?_ (by first | omega | (simp; done) | (simp; omega)) _) | (refine Below.drew ?_) | (refine Below.drewN ?_ _) | (refine Below.next (by assumption) ?_ (by first | omega | (simp; done) | (simp; omega))))))) (by first | omega | exact hV) (by first | omega | exact hV)).mono ?_
  rintro e w7 ⟨rfl, hq7⟩; have hz7 := hq7.size; (try simp at hz7); (try have gz1 : w.heap.size < w7.heap.size := by omega); (try have gz2 : w.heap.size + 1 < w7.heap.size := by omega)
  go_wp2_with fail
  refine (toMeasureS_any _ _ _ _ (m0.below (by (repeat (first | exact Below.refl _ _ | assumption | (refine Below.alloc ?_ (by first | omega | (simp; done) | (simp; omega)) _) | (refine Below.setCell ?_ (by first | omega | (simp; done) | (simp; omega)) _) | (refine Below.drew ?_) | (refine Below.drewN ?_ _) | (refine Below.next (by assumption) ?_ (by first | omega | (simp; done) | (simp; omega))))))) (by omega)).mono ?_
  rintro e w8 ⟨A8r, c8r, rfl, ho8, hq8⟩; have hz8 := hq8.size; (try simp at hz8); (try have gz1 : w.heap.size < w8.heap.size := by omega); (try have gz2 : w.heap.size + 1 < w8.heap.size := by omega)
  go_wp2_with fail
  refine (eqMeasureS_any _ _ _ _ _ _ _ (Mem.below (Mem.of_own ho4) (by (repeat (first | exact Below.refl _ _ | assumption | (refine Below.alloc ?_ (by first | omega | (simp; done) | (simp; omega)) _) | (refine Below.setCell ?_ (by first | omega | (simp; done) | (simp; omega)) _) | (refine Below.drew ?_) | (refine Below.drewN ?_ _) | (refine Below.next (by assumption) ?_ (by first | omega | (simp; done) | (simp; omega))))))) (Mem.below (Mem.of_own ho8) (by (repeat (first | exact Below.refl _ _ | assumption | (refine Below.alloc ?_ (by first | omega | (simp; done) | (simp; omega)) _) | (refine Below.setCell ?_ (by first | omega | (simp; done) | (simp; omega)) _) | (refine Below.drew ?_) | (refine Below.drewN ?_ _) | (refine Below.next (by assumption) ?_ (by first | omega | (simp; done) | (simp; omega))))))) (by omega) (by omega)).mono ?_
  rintro e w9 ⟨rfl, hq9⟩; have hz9 := hq9.size; (try simp at hz9); (try have gz1 : w.heap.size < w9.heap.size := by omega); (try have gz2 : w.heap.size + 1 < w9.heap.size := by omega)
  go_wp2_with fail
  refine (toIntS_any _ _ _ _ (m2.below (by (repeat (first | exact Below.refl _ _ | assumption | (refine Below.alloc ?_ (by first | omega | (simp; done) | (simp; omega)) _) | (refine Below.setCell ?_ (by first | omega | (simp; done) | (simp; omega)) _) | (refine Below.drew ?_) | (refine Below.drewN ?_ _) | (refine Below.next (by assumption) ?_ (by first | omega | (simp; done) | (simp; omega))))))) (by omega)).mono ?_
  rintro e w10 ⟨A10r, c10r, rfl, ho10, hq10⟩; have hz10 := hq10.size; (try simp at hz10); (try have gz1 : w.heap.size < w10.heap.size := by omega); (try have gz2 : w.heap.size + 1 < w10.heap.size := by omega)
  go_wp2_with fail
  refine (eqIntS_any _ _ _ _ _ _ _ (Mem.below (Mem.of_own ho5) (by (repeat (first | exact Below.refl _ _ | assumption | (refine Below.alloc ?_ (by first | omega | (simp; done) | (simp; omega)) _) | (refine Below.setCell ?_ (by first | omega | (simp; done) | (simp; omega)) _) | (refine Below.drew ?_) | (refine Below.drewN ?_ _) | (refine Below.next (by assumption) ?_ (by first | omega | (simp; done) | (simp; omega))))))) (Mem.below (Mem.of_own ho10) (by (repeat (first | exact Below.refl _ _ | assumption | (refine Below.alloc ?_ (by first | omega | (simp; done) | (simp; omega)) _) | (refine Below.setCell ?_ (by first | omega | (simp; done) | (simp; omega)) _) | (refine Below.drew ?_) | (refine Below.drewN ?_ _) | (refine Below.next (by assumption) ?_ (by first | omega | (simp; done) | (simp; omega))))))) (by omega) (by omega)).mono ?_
  rintro e w11 ⟨rfl, hq11⟩; have hz11 := hq11.size; (try simp at hz11); (try have gz1 : w.heap.size < w11.heap.size := by omega); (try have gz2 : w.heap.size + 1 < w11.heap.size := by omega)
  go_wp2_with fail
  have hp4 := own_below (w' := w11) ho4 (by (repeat (first | exact Below.refl _ _ | assumption | (refine Below.alloc ?_ (by first | omega | (simp; done) | (simp; omega)) _) | (refine Below.setCell ?_ (by first | omega | (simp; done) | (simp; omega)) _) | (refine Below.drew ?_) | (refine Below.drewN ?_ _) | (refine Below.next (by assumption) ?_ (by first | omega | (simp; done) | (simp; omega))))))
  have hp3 := own_below (w' := w11) ho3 (by (repeat (first | exact Below.refl _ _ | assumption | (refine Below.alloc ?_ (by first | omega | (simp; done) | (simp; omega)) _) | (refine Below.setCell ?_ (by first | omega | (simp; done) | (simp; omega)) _) | (refine Below.drew ?_) | (refine Below.drewN ?_ _) | (refine Below.next (by assumption) ?_ (by first | omega | (simp; done) | (simp; omega))))))
  have hp6 := own_below (w' := w11) ho6 (by (repeat (first | exact Below.refl _ _ | assumption | (refine Below.alloc ?_ (by first | omega | (simp; done) | (simp; omega)) _) | (refine Below.setCell ?_ (by first | omega | (simp; done) | (simp; omega)) _) | (refine Below.drew ?_) | (refine Below.drewN ?_ _) | (refine Below.next (by assumption) ?_ (by first | omega | (simp; done) | (simp; omega))))))
  have hp5 := own_below (w' := w11) ho5 (by (repeat (first | exact Below.refl _ _ | assumption | (refine Below.alloc ?_ (by first | omega | (simp; done) | (simp; omega)) _) | (refine Below.setCell ?_ (by first | omega | (simp; done) | (simp; omega)) _) | (refine Below.drew ?_) | (refine Below.drewN ?_ _) | (refine Below.next (by assumption) ?_ (by first | omega | (simp; done) | (simp; omega))))))
  refine (markMeasureS_any _ _ _ _ 1 _ hp4 (by first | omega | exact hV) (by omega) (by omega)).mono ?_
  rintro e w12 ⟨rfl, hm12, hg12⟩
  have hk3_12 := own_kept hp3 hg12 (fun k hk j hj => by have a1 := ho4.lt k hk; have a2 := ho3.lt j hj; (try simp at a1); (try simp at a2); omega)
  have hk6_12 := own_kept hp6 hg12 (fun k hk j hj => by have a1 := ho4.lt k hk; have a2 := ho6.lt j hj; (try simp at a1); (try simp at a2); omega)
  have hk5_12 := own_kept hp5 hg12 (fun k hk j hj => by have a1 := ho4.lt k hk; have a2 := ho5.lt j hj; (try simp at a1); (try simp at a2); omega)
  have hB12 : Below w.heap.size w w12 := below_grown (by (repeat (first | exact Below.refl _ _ | assumption | (refine Below.alloc ?_ (by first | omega | (simp; done) | (simp; omega)) _) | (refine Below.setCell ?_ (by first | omega | (simp; done) | (simp; omega)) _) | (refine Below.drew ?_) | (refine Below.drewN ?_ _) | (refine Below.next (by assumption) ?_ (by first | omega | (simp; done) | (simp; omega)))))) hg12 (by first | omega | (simp; omega)) (fun k hk => by have a1 := ho4.lt k hk; (try simp at a1); (try dsimp only); omega)
  have hz12 := hg12.size
  (try simp at hz12)
  (try have gz1 : w.heap.size < w12.heap.size := by omega); (try have gz2 : w.heap.size + 1 < w12.heap.size := by omega)
  clear hp4 hp3 hp6 hp5
  go_wp2_with fail
  have hp5 := own_below (w' := w12) hk5_12 (by (repeat (first | exact Below.refl _ _ | assumption | (refine Below.alloc ?_ (by first | omega | (simp; done) | (simp; omega)) _) | (refine Below.setCell ?_ (by first | omega | (simp; done) | (simp; omega)) _) | (refine Below.drew ?_) | (refine Below.drewN ?_ _) | (refine Below.next (by assumption) ?_ (by first | omega | (simp; done) | (simp; omega))))))
  have hp3 := own_below (w' := w12) hk3_12 (by (repeat (first | exact Below.refl _ _ | assumption | (refine Below.alloc ?_ (by first | omega | (simp; done) | (simp; omega)) _) | (refine Below.setCell ?_ (by first | omega | (simp; done) | (simp; omega)) _) | (refine Below.drew ?_) | (refine Below.drewN ?_ _) | (refine Below.next (by assumption) ?_ (by first | omega | (simp; done) | (simp; omega))))))
  have hp6 := own_below (w' := w12) hk6_12 (by (repeat (first | exact Below.refl _ _ | assumption | (refine Below.alloc ?_ (by first | omega | (simp; done) | (simp; omega)) _) | (refine Below.setCell ?_ (by first | omega | (simp; done) | (simp; omega)) _) | (refine Below.drew ?_) | (refine Below.drewN ?_ _) | (refine Below.next (by assumption) ?_ (by first | omega | (simp; done) | (simp; omega))))))
  refine (markIntS_any _ _ _ _ _ _ hp5 (by first | omega | exact hV) (by omega) (by omega)).mono ?_
  rintro e w13 ⟨rfl, hm13, hg13⟩
  have hk3_13 := own_kept hp3 hg13 (fun k hk j hj => by have a1 := ho5.lt k hk; have a2 := ho3.lt j hj; (try simp at a1); (try simp at a2); omega)
  have hk6_13 := own_kept hp6 hg13 (fun k hk j hj => by have a1 := ho5.lt k hk; have a2 := ho6.lt j hj; (try simp at a1); (try simp at a2); omega)
  have hB13 : Below w.heap.size w w13 := below_grown (by (repeat (first | exact Below.refl _ _ | assumption | (refine Below.alloc ?_ (by first | omega | (simp; done) | (simp; omega)) _) | (refine Below.setCell ?_ (by first | omega | (simp; done) | (simp; omega)) _) | (refine Below.drew ?_) | (refine Below.drewN ?_ _) | (refine Below.next (by assumption) ?_ (by first | omega | (simp; done) | (simp; omega)))))) hg13 (by first | omega | (simp; omega)) (fun k hk => by have a1 := ho5.lt k hk; (try simp at a1); (try dsimp only); omega)
  have hz13 := hg13.size
  (try simp at hz13)
  (try have gz1 : w.heap.size < w13.heap.size := by omega); (try have gz2 : w.heap.size + 1 < w13.heap.size := by omega)
  clear hp5 hp3 hp6
  go_wp2_with fail
  refine (eqIntS_any _ _ _ _ _ _ _ (Mem.below (Mem.of_own hk6_13) (by (repeat (first | exact Below.refl _ _ | assumption | (refine Below.alloc ?_ (by first | omega | (simp; done) | (simp; omega)) _) | (refine Below.setCell ?_ (by first | omega | (simp; done) | (simp; omega)) _) | (refine Below.drew ?_) | (refine Below.drewN ?_ _) | (refine Below.next (by assumption) ?_ (by first | omega | (simp; done) | (simp; omega))))))) (Mem.below (Mem.of_own hk3_13) (by (repeat (first | exact Below.refl _ _ | assumption | (refine Below.alloc ?_ (by first | omega | (simp; done) | (simp; omega)) _) | (refine Below.setCell ?_ (by first | omega | (simp; done) | (simp; omega)) _) | (refine Below.drew ?_) | (refine Below.drewN ?_ _) | (refine Below.next (by assumption) ?_ (by first | omega | (simp; done) | (simp; omega))))))) (by first | omega | exact hV) (by first | omega | exact hV)).mono ?_
  rintro e w14 ⟨rfl, hq14⟩; have hz14 := hq14.size; (try simp at hz14); (try have gz1 : w.heap.size < w14.heap.size := by omega); (try have gz2 : w.heap.size + 1 < w14.heap.size := by omega)
  go_wp2_with fail
  have hp6 := own_below (w' := w14) hk6_13 (by (repeat (first | exact Below.refl _ _ | assumption | (refine Below.alloc ?_ (by first | omega | (simp; done) | (simp; omega)) _) | (refine Below.setCell ?_ (by first | omega | (simp; done) | (simp; omega)) _) | (refine Below.drew ?_) | (refine Below.drewN ?_ _) | (refine Below.next (by assumption) ?_ (by first | omega | (simp; done) | (simp; omega))))))
  have hp3 := own_below (w' := w14) hk3_13 (by (repeat (first | exact Below.refl _ _ | assumption | (refine Below.alloc ?_ (by first | omega | (simp; done) | (simp; omega)) _) | (refine Below.setCell ?_ (by first | omega | (simp; done) | (simp; omega)) _) | (refine Below.drew ?_) | (refine Below.drewN ?_ _) | (refine Below.next (by assumption) ?_ (by first | omega | (simp; done) | (simp; omega))))))
  refine (markIntS_any _ _ _ _ 1 _ hp6 (by first | omega | exact hV) (by omega) (by omega)).mono ?_
  rintro e w15 ⟨rfl, hm15, hg15⟩
  have hk3_15 := own_kept hp3 hg15 (fun k hk j hj => by have a1 := ho6.lt k hk; have a2 := ho3.lt j hj; (try simp at a1); (try simp at a2); omega)
  have hB15 : Below w.heap.size w w15 := below_grown (by (repeat (first | exact Below.refl _ _ | assumption | (refine Below.alloc ?_ (by first | omega | (simp; done) | (simp; omega)) _) | (refine Below.setCell ?_ (by first | omega | (simp; done) | (simp; omega)) _) | (refine Below.drew ?_) | (refine Below.drewN ?_ _) | (refine Below.next (by assumption) ?_ (by first | omega | (simp; done) | (simp; omega)))))) hg15 (by first | omega | (simp; omega)) (fun k hk => by have a1 := ho6.lt k hk; (try simp at a1); (try dsimp only); omega)
  have hz15 := hg15.size
  (try simp at hz15)
  (try have gz1 : w.heap.size < w15.heap.size := by omega); (try have gz2 : w.heap.size + 1 < w15.heap.size := by omega)
  clear hp6 hp3
  go_wp2_with fail
  refine (heldIntS_any _ _ _ _ _ (Mem.below (Mem.of_own hm15) (by (repeat (first | exact Below.refl _ _ | assumption | (refine Below.alloc ?_ (by first | omega | (simp; done) | (simp; omega)) _) | (refine Below.setCell ?_ (by first | omega | (simp; done) | (simp; omega)) _) | (refine Below.drew ?_) | (refine Below.drewN ?_ _) | (refine Below.next (by assumption) ?_ (by first | omega | (simp; done) | (simp; omega))))))) (by first | omega | exact hV) (by omega) (by omega)).mono ?_
  rintro e w16 ⟨rfl, rfl⟩
  go_wp2_with fail
  refine (toMeasureS_any _ _ _ _ (m0.below (by (repeat (first | exact Below.refl _ _ | assumption | (refine Below.alloc ?_ (by first | omega | (simp; done) | (simp; omega)) _) | (refine Below.setCell ?_ (by first | omega | (simp; done) | (simp; omega)) _) | (refine Below.drew ?_) | (refine Below.drewN ?_ _) | (refine Below.next (by assumption) ?_ (by first | omega | (simp; done) | (simp; omega))))))) (by omega)).mono ?_
  rintro e w17 ⟨A17r, c17r, rfl, ho17, hq17⟩; have hz17 := hq17.size; (try simp at hz17); (try have gz1 : w.heap.size < w17.heap.size := by omega); (try have gz2 : w.heap.size + 1 < w17.heap.size := by omega)
  go_wp2_with fail
  refine (toIntS_any _ _ _ _ (m2.below (by (repeat (first | exact Below.refl _ _ | assumption | (refine Below.alloc ?_ (by first | omega | (simp; done) | (simp; omega)) _) | (refine Below.setCell ?_ (by first | omega | (simp; done) | (simp; omega)) _) | (refine Below.drew ?_) | (refine Below.drewN ?_ _) | (refine Below.next (by assumption) ?_ (by first | omega | (simp; done) | (simp; omega))))))) (by omega)).mono ?_
  rintro e w18 ⟨A18r, c18r, rfl, ho18, hq18⟩; have hz18 := hq18.size; (try simp at hz18); (try have gz1 : w.heap.size < w18.heap.size := by omega); (try have gz2 : w.heap.size + 1 < w18.heap.size := by omega)
  go_wp2_with fail
  refine (impl_EntryTimes_any _ _ L0 a1 _ _ L2 _ (Mem.below (Mem.of_own ho17) (by (repeat (first | exact Below.refl _ _ | assumption | (refine Below.alloc ?_ (by first | omega | (simp; done) | (simp; omega)) _) | (refine Below.setCell ?_ (by first | omega | (simp; done) | (simp; omega)) _) | (refine Below.drew ?_) | (refine Below.drewN ?_ _) | (refine Below.next (by assumption) ?_ (by first | omega | (simp; done) | (simp; omega))))))) (Mem.below (Mem.of_own ho18) (by (repeat (first | exact Below.refl _ _ | assumption | (refine Below.alloc ?_ (by first | omega | (simp; done) | (simp; omega)) _) | (refine Below.setCell ?_ (by first | omega | (simp; done) | (simp; omega)) _) | (refine Below.drew ?_) | (refine Below.drewN ?_ _) | (refine Below.next (by assumption) ?_ (by first | omega | (simp; done) | (simp; omega))))))) s0 s2).mono ?_
  rintro e w19 ⟨A19r, c19r, rfl, ho19, hq19⟩; have hz19 := hq19.size; (try simp at hz19); (try have gz1 : w.heap.size < w19.heap.size := by omega); (try have gz2 : w.heap.size + 1 < w19.heap.size := by omega)
  go_wp2_with fail
  refine (eqIntS_any _ _ _ _ _ _ _ (Mem.below (Mem.of_own ho19) (by (repeat (first | exact Below.refl _ _ | assumption | (refine Below.alloc ?_ (by first | omega | (simp; done) | (simp; omega)) _) | (refine Below.setCell ?_ (by first | omega | (simp; done) | (simp; omega)) _) | (refine Below.drew ?_) | (refine Below.drewN ?_ _) | (refine Below.next (by assumption) ?_ (by first | omega | (simp; done) | (simp; omega))))))) (Mem.below (Mem.of_own hk3_15) (by (repeat (first | exact Below.refl _ _ | assumption | (refine Below.alloc ?_ (by first | omega | (simp; done) | (simp; omega)) _) | (refine Below.setCell ?_ (by first | omega | (simp; done) | (simp; omega)) _) | (refine Below.drew ?_) | (refine Below.drewN ?_ _) | (refine Below.next (by assumption) ?_ (by first | omega | (simp; done) | (simp; omega))))))) (by first | omega | exact hV) (by first | omega | exact hV)).mono ?_
  rintro e w20 ⟨rfl, hq20⟩; have hz20 := hq20.size; (try simp at hz20); (try have gz1 : w.heap.size < w20.heap.size := by omega); (try have gz2 : w.heap.size + 1 < w20.heap.size := by omega)
  go_wp2_with fail
  refine (heldIntS_any _ _ _ _ _ (Mem.below (Mem.of_own hm15) (by (repeat (first | exact Below.refl _ _ | assumption | (refine Below.alloc ?_ (by first | omega | (simp; done) | (simp; omega)) _) | (refine Below.setCell ?_ (by first | omega | (simp; done) | (simp; omega)) _) | (refine Below.drew ?_) | (refine Below.drewN ?_ _) | (refine Below.next (by assumption) ?_ (by first | omega | (simp; done) | (simp; omega))))))) (by first | omega | exact hV) (by omega) (by omega)).mono ?_
  rintro e w21 ⟨rfl, rfl⟩
  go_wp2_with fail
  go_ret
  exact ⟨rfl, by (repeat (first | exact Below.refl _ _ | assumption | (refine Below.alloc ?_ (by first | omega | (simp; done) | (simp; omega)) _) | (refine Below.setCell ?_ (by first | omega | (simp; done) | (simp; omega)) _) | (refine Below.drew ?_) | (refine Below.drewN ?_ _) | (refine Below.next (by assumption) ?_ (by first | omega | (simp; done) | (simp; omega)))))⟩
end Go.Proofs.Ytfjoggkielpipaa
