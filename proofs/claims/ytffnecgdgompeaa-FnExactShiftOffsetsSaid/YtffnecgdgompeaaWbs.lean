/-
  The walk of the law FnExactShiftOffsets.
-/
import Derived.Test.YtffnecgdgompeaaCpy
import Derived.Test.YtffnecgdgompeaaCpySp
import Derived.Test.YtffnecgdgompeaaOffb
import Derived.Deep.RegionHeld3
namespace Go.Proofs.Ytffnecgdgompeaa
open Go.RowKit Go.Sort

theorem shV_le (L : List Int) (b : Int) : (shV L b).length ≤ L.length := by unfold shV; split <;> simp [shiftd]

set_option maxHeartbeats 3200000 in
theorem FnExactShiftOffsets_walk (A0 : Option Addr) (c0 : Nat) (L0 : List Int) (a1 : Int) (w : World) (m0 : Mem w A0 (ints L0)) (_ : ∀ a ∈ L0, okInt a) (l0 : L0.length ≤ c0) (n0 : c0 ≤ maxLen) (_ : okInt a1) : Calls Try.prog 6 #[.slice A0 L0.length c0, .int .i64 a1] w fun e w' => e = .returned (.bool true) ∧ Below w.heap.size w w' := by
  unfold maxLen at n0
  by_cases t0 : L0.length ≤ 1048576
  case neg =>
    go_enter Try.func6, Try.ntmps6
    go_wp2_with fail
    go_ret
    exact ⟨rfl, by (repeat (first | exact Below.refl _ _ | assumption | (refine Below.alloc ?_ (by first | omega | (simp; done) | (simp; omega)) _) | (refine Below.setCell ?_ (by first | omega | (simp; done) | (simp; omega)) _) | (refine Below.drew ?_) | (refine Below.drewN ?_ _) | (refine Below.next (by assumption) ?_ (by first | omega | (simp; done) | (simp; omega)))))⟩
  have s0 : L0.length ≤ 1048576 := by omega
  have hV : (shV L0 a1).length ≤ 1048576 := Nat.le_trans (shV_le L0 a1) s0
  go_enter Try.func6, Try.ntmps6
  go_wp2_with fail
  refine (toIntS_any _ _ _ _ (m0.below (by (repeat (first | exact Below.refl _ _ | assumption | (refine Below.alloc ?_ (by first | omega | (simp; done) | (simp; omega)) _) | (refine Below.setCell ?_ (by first | omega | (simp; done) | (simp; omega)) _) | (refine Below.drew ?_) | (refine Below.drewN ?_ _) | (refine Below.next (by assumption) ?_ (by first | omega | (simp; done) | (simp; omega))))))) (by omega)).mono ?_
  rintro e w1 ⟨A1r, c1r, rfl, ho1, hq1⟩; have hz1 := hq1.size; (try simp at hz1); (try have gz1 : w.heap.size < w1.heap.size := by omega); (try have gz2 : w.heap.size + 1 < w1.heap.size := by omega)
  go_wp2_with fail
  refine (spec_ShiftOffsets_any _ _ L0 a1 _ (Mem.below (Mem.of_own ho1) (by (repeat (first | exact Below.refl _ _ | assumption | (refine Below.alloc ?_ (by first | omega | (simp; done) | (simp; omega)) _) | (refine Below.setCell ?_ (by first | omega | (simp; done) | (simp; omega)) _) | (refine Below.drew ?_) | (refine Below.drewN ?_ _) | (refine Below.next (by assumption) ?_ (by first | omega | (simp; done) | (simp; omega))))))) s0).mono ?_
  rintro e w2 ⟨A2r, c2r, rfl, ho2, hq2⟩; have hz2 := hq2.size; (try simp at hz2); (try have gz1 : w.heap.size < w2.heap.size := by omega); (try have gz2 : w.heap.size + 1 < w2.heap.size := by omega)
  go_wp2_with fail
  refine (toIntS_any _ _ _ _ (m0.below (by (repeat (first | exact Below.refl _ _ | assumption | (refine Below.alloc ?_ (by first | omega | (simp; done) | (simp; omega)) _) | (refine Below.setCell ?_ (by first | omega | (simp; done) | (simp; omega)) _) | (refine Below.drew ?_) | (refine Below.drewN ?_ _) | (refine Below.next (by assumption) ?_ (by first | omega | (simp; done) | (simp; omega))))))) (by omega)).mono ?_
  rintro e w3 ⟨A3r, c3r, rfl, ho3, hq3⟩; have hz3 := hq3.size; (try simp at hz3); (try have gz1 : w.heap.size < w3.heap.size := by omega); (try have gz2 : w.heap.size + 1 < w3.heap.size := by omega)
  go_wp2_with fail
  refine (impl_ShiftOffsets_any _ _ L0 a1 _ (Mem.below (Mem.of_own ho3) (by (repeat (first | exact Below.refl _ _ | assumption | (refine Below.alloc ?_ (by first | omega | (simp; done) | (simp; omega)) _) | (refine Below.setCell ?_ (by first | omega | (simp; done) | (simp; omega)) _) | (refine Below.drew ?_) | (refine Below.drewN ?_ _) | (refine Below.next (by assumption) ?_ (by first | omega | (simp; done) | (simp; omega))))))) s0).mono ?_
  rintro e w4 ⟨A4r, c4r, rfl, ho4, hq4⟩; have hz4 := hq4.size; (try simp at hz4); (try have gz1 : w.heap.size < w4.heap.size := by omega); (try have gz2 : w.heap.size + 1 < w4.heap.size := by omega)
  go_wp2_with fail
  refine (eqIntS_any _ _ _ _ _ _ _ (Mem.below (Mem.of_own ho4) (by (repeat (first | exact Below.refl _ _ | assumption | (refine Below.alloc ?_ (by first | omega | (simp; done) | (simp; omega)) _) | (refine Below.setCell ?_ (by first | omega | (simp; done) | (simp; omega)) _) | (refine Below.drew ?_) | (refine Below.drewN ?_ _) | (refine Below.next (by assumption) ?_ (by first | omega | (simp; done) | (simp; omega))))))) (Mem.below (Mem.of_own ho2) (by (repeat (first | exact Below.refl _ _ | assumption | (refine Below.alloc ?_ (by first | omega | (simp; done) | (simp; omega)) _) | (refine Below.setCell ?_ (by first | omega | (simp; done) | (simp; omega)) _) | (refine Below.drew ?_) | (refine Below.drewN ?_ _) | (refine Below.next (by assumption) ?_ (by first | omega | (simp; done) | (simp; omega))))))) (by first | omega | exact hV) (by first | omega | exact hV)).mono ?_
  rintro e w5 ⟨rfl, hq5⟩; have hz5 := hq5.size; (try simp at hz5); (try have gz1 : w.heap.size < w5.heap.size := by omega); (try have gz2 : w.heap.size + 1 < w5.heap.size := by omega)
  go_wp2_with fail
  refine (toIntS_any _ _ _ _ (m0.below (by (repeat (first | exact Below.refl _ _ | assumption | (refine Below.alloc ?_ (by first | omega | (simp; done) | (simp; omega)) _) | (refine Below.setCell ?_ (by first | omega | (simp; done) | (simp; omega)) _) | (refine Below.drew ?_) | (refine Below.drewN ?_ _) | (refine Below.next (by assumption) ?_ (by first | omega | (simp; done) | (simp; omega))))))) (by omega)).mono ?_
  rintro e w6 ⟨A6r, c6r, rfl, ho6, hq6⟩; have hz6 := hq6.size; (try simp at hz6); (try have gz1 : w.heap.size < w6.heap.size := by omega); (try have gz2 : w.heap.size + 1 < w6.heap.size := by omega)
  go_wp2_with fail
  refine (eqIntS_any _ _ _ _ _ _ _ (Mem.below (Mem.of_own ho3) (by (repeat (first | exact Below.refl _ _ | assumption | (refine Below.alloc ?_ (by first | omega | (simp; done) | (simp; omega)) _) | (refine Below.setCell ?_ (by first | omega | (simp; done) | (simp; omega)) _) | (refine Below.drew ?_) | (refine Below.drewN ?_ _) | (refine Below.next (by assumption) ?_ (by first | omega | (simp; done) | (simp; omega))))))) (Mem.below (Mem.of_own ho6) (by (repeat (first | exact Below.refl _ _ | assumption | (refine Below.alloc ?_ (by first | omega | (simp; done) | (simp; omega)) _) | (refine Below.setCell ?_ (by first | omega | (simp; done) | (simp; omega)) _) | (refine Below.drew ?_) | (refine Below.drewN ?_ _) | (refine Below.next (by assumption) ?_ (by first | omega | (simp; done) | (simp; omega))))))) (by omega) (by omega)).mono ?_
  rintro e w7 ⟨rfl, hq7⟩; have hz7 := hq7.size; (try simp at hz7); (try have gz1 : w.heap.size < w7.heap.size := by omega); (try have gz2 : w.heap.size + 1 < w7.heap.size := by omega)
  go_wp2_with fail
  have hp3 := own_below (w' := w7) ho3 (by (repeat (first | exact Below.refl _ _ | assumption | (refine Below.alloc ?_ (by first | omega | (simp; done) | (simp; omega)) _) | (refine Below.setCell ?_ (by first | omega | (simp; done) | (simp; omega)) _) | (refine Below.drew ?_) | (refine Below.drewN ?_ _) | (refine Below.next (by assumption) ?_ (by first | omega | (simp; done) | (simp; omega))))))
  have hp2 := own_below (w' := w7) ho2 (by (repeat (first | exact Below.refl _ _ | assumption | (refine Below.alloc ?_ (by first | omega | (simp; done) | (simp; omega)) _) | (refine Below.setCell ?_ (by first | omega | (simp; done) | (simp; omega)) _) | (refine Below.drew ?_) | (refine Below.drewN ?_ _) | (refine Below.next (by assumption) ?_ (by first | omega | (simp; done) | (simp; omega))))))
  have hp4 := own_below (w' := w7) ho4 (by (repeat (first | exact Below.refl _ _ | assumption | (refine Below.alloc ?_ (by first | omega | (simp; done) | (simp; omega)) _) | (refine Below.setCell ?_ (by first | omega | (simp; done) | (simp; omega)) _) | (refine Below.drew ?_) | (refine Below.drewN ?_ _) | (refine Below.next (by assumption) ?_ (by first | omega | (simp; done) | (simp; omega))))))
  refine (markIntS_any _ _ _ _ 1 _ hp3 (by first | omega | exact hV) (by omega) (by omega)).mono ?_
  rintro e w8 ⟨rfl, hm8, hg8⟩
  have hk2_8 := own_kept hp2 hg8 (fun k hk j hj => by have a1 := ho3.lt k hk; have a2 := ho2.lt j hj; (try simp at a1); (try simp at a2); omega)
  have hk4_8 := own_kept hp4 hg8 (fun k hk j hj => by have a1 := ho3.lt k hk; have a2 := ho4.lt j hj; (try simp at a1); (try simp at a2); omega)
  have hB8 : Below w.heap.size w w8 := below_grown (by (repeat (first | exact Below.refl _ _ | assumption | (refine Below.alloc ?_ (by first | omega | (simp; done) | (simp; omega)) _) | (refine Below.setCell ?_ (by first | omega | (simp; done) | (simp; omega)) _) | (refine Below.drew ?_) | (refine Below.drewN ?_ _) | (refine Below.next (by assumption) ?_ (by first | omega | (simp; done) | (simp; omega)))))) hg8 (by first | omega | (simp; omega)) (fun k hk => by have a1 := ho3.lt k hk; (try simp at a1); (try dsimp only); omega)
  have hz8 := hg8.size
  (try simp at hz8)
  (try have gz1 : w.heap.size < w8.heap.size := by omega); (try have gz2 : w.heap.size + 1 < w8.heap.size := by omega)
  clear hp3 hp2 hp4
  go_wp2_with fail
  refine (eqIntS_any _ _ _ _ _ _ _ (Mem.below (Mem.of_own hk4_8) (by (repeat (first | exact Below.refl _ _ | assumption | (refine Below.alloc ?_ (by first | omega | (simp; done) | (simp; omega)) _) | (refine Below.setCell ?_ (by first | omega | (simp; done) | (simp; omega)) _) | (refine Below.drew ?_) | (refine Below.drewN ?_ _) | (refine Below.next (by assumption) ?_ (by first | omega | (simp; done) | (simp; omega))))))) (Mem.below (Mem.of_own hk2_8) (by (repeat (first | exact Below.refl _ _ | assumption | (refine Below.alloc ?_ (by first | omega | (simp; done) | (simp; omega)) _) | (refine Below.setCell ?_ (by first | omega | (simp; done) | (simp; omega)) _) | (refine Below.drew ?_) | (refine Below.drewN ?_ _) | (refine Below.next (by assumption) ?_ (by first | omega | (simp; done) | (simp; omega))))))) (by first | omega | exact hV) (by first | omega | exact hV)).mono ?_
  rintro e w9 ⟨rfl, hq9⟩; have hz9 := hq9.size; (try simp at hz9); (try have gz1 : w.heap.size < w9.heap.size := by omega); (try have gz2 : w.heap.size + 1 < w9.heap.size := by omega)
  go_wp2_with fail
  have hp4 := own_below (w' := w9) hk4_8 (by (repeat (first | exact Below.refl _ _ | assumption | (refine Below.alloc ?_ (by first | omega | (simp; done) | (simp; omega)) _) | (refine Below.setCell ?_ (by first | omega | (simp; done) | (simp; omega)) _) | (refine Below.drew ?_) | (refine Below.drewN ?_ _) | (refine Below.next (by assumption) ?_ (by first | omega | (simp; done) | (simp; omega))))))
  have hp2 := own_below (w' := w9) hk2_8 (by (repeat (first | exact Below.refl _ _ | assumption | (refine Below.alloc ?_ (by first | omega | (simp; done) | (simp; omega)) _) | (refine Below.setCell ?_ (by first | omega | (simp; done) | (simp; omega)) _) | (refine Below.drew ?_) | (refine Below.drewN ?_ _) | (refine Below.next (by assumption) ?_ (by first | omega | (simp; done) | (simp; omega))))))
  refine (markIntS_any _ _ _ _ 1 _ hp4 (by first | omega | exact hV) (by omega) (by omega)).mono ?_
  rintro e w10 ⟨rfl, hm10, hg10⟩
  have hk2_10 := own_kept hp2 hg10 (fun k hk j hj => by have a1 := ho4.lt k hk; have a2 := ho2.lt j hj; (try simp at a1); (try simp at a2); omega)
  have hB10 : Below w.heap.size w w10 := below_grown (by (repeat (first | exact Below.refl _ _ | assumption | (refine Below.alloc ?_ (by first | omega | (simp; done) | (simp; omega)) _) | (refine Below.setCell ?_ (by first | omega | (simp; done) | (simp; omega)) _) | (refine Below.drew ?_) | (refine Below.drewN ?_ _) | (refine Below.next (by assumption) ?_ (by first | omega | (simp; done) | (simp; omega)))))) hg10 (by first | omega | (simp; omega)) (fun k hk => by have a1 := ho4.lt k hk; (try simp at a1); (try dsimp only); omega)
  have hz10 := hg10.size
  (try simp at hz10)
  (try have gz1 : w.heap.size < w10.heap.size := by omega); (try have gz2 : w.heap.size + 1 < w10.heap.size := by omega)
  clear hp4 hp2
  go_wp2_with fail
  refine (heldIntS_any _ _ _ _ _ (Mem.below (Mem.of_own hm10) (by (repeat (first | exact Below.refl _ _ | assumption | (refine Below.alloc ?_ (by first | omega | (simp; done) | (simp; omega)) _) | (refine Below.setCell ?_ (by first | omega | (simp; done) | (simp; omega)) _) | (refine Below.drew ?_) | (refine Below.drewN ?_ _) | (refine Below.next (by assumption) ?_ (by first | omega | (simp; done) | (simp; omega))))))) (by first | omega | exact hV) (by omega) (by omega)).mono ?_
  rintro e w11 ⟨rfl, rfl⟩
  go_wp2_with fail
  refine (toIntS_any _ _ _ _ (m0.below (by (repeat (first | exact Below.refl _ _ | assumption | (refine Below.alloc ?_ (by first | omega | (simp; done) | (simp; omega)) _) | (refine Below.setCell ?_ (by first | omega | (simp; done) | (simp; omega)) _) | (refine Below.drew ?_) | (refine Below.drewN ?_ _) | (refine Below.next (by assumption) ?_ (by first | omega | (simp; done) | (simp; omega))))))) (by omega)).mono ?_
  rintro e w12 ⟨A12r, c12r, rfl, ho12, hq12⟩; have hz12 := hq12.size; (try simp at hz12); (try have gz1 : w.heap.size < w12.heap.size := by omega); (try have gz2 : w.heap.size + 1 < w12.heap.size := by omega)
  go_wp2_with fail
  refine (impl_ShiftOffsets_any _ _ L0 a1 _ (Mem.below (Mem.of_own ho12) (by (repeat (first | exact Below.refl _ _ | assumption | (refine Below.alloc ?_ (by first | omega | (simp; done) | (simp; omega)) _) | (refine Below.setCell ?_ (by first | omega | (simp; done) | (simp; omega)) _) | (refine Below.drew ?_) | (refine Below.drewN ?_ _) | (refine Below.next (by assumption) ?_ (by first | omega | (simp; done) | (simp; omega))))))) s0).mono ?_
  rintro e w13 ⟨A13r, c13r, rfl, ho13, hq13⟩; have hz13 := hq13.size; (try simp at hz13); (try have gz1 : w.heap.size < w13.heap.size := by omega); (try have gz2 : w.heap.size + 1 < w13.heap.size := by omega)
  go_wp2_with fail
  refine (eqIntS_any _ _ _ _ _ _ _ (Mem.below (Mem.of_own ho13) (by (repeat (first | exact Below.refl _ _ | assumption | (refine Below.alloc ?_ (by first | omega | (simp; done) | (simp; omega)) _) | (refine Below.setCell ?_ (by first | omega | (simp; done) | (simp; omega)) _) | (refine Below.drew ?_) | (refine Below.drewN ?_ _) | (refine Below.next (by assumption) ?_ (by first | omega | (simp; done) | (simp; omega))))))) (Mem.below (Mem.of_own hk2_10) (by (repeat (first | exact Below.refl _ _ | assumption | (refine Below.alloc ?_ (by first | omega | (simp; done) | (simp; omega)) _) | (refine Below.setCell ?_ (by first | omega | (simp; done) | (simp; omega)) _) | (refine Below.drew ?_) | (refine Below.drewN ?_ _) | (refine Below.next (by assumption) ?_ (by first | omega | (simp; done) | (simp; omega))))))) (by first | omega | exact hV) (by first | omega | exact hV)).mono ?_
  rintro e w14 ⟨rfl, hq14⟩; have hz14 := hq14.size; (try simp at hz14); (try have gz1 : w.heap.size < w14.heap.size := by omega); (try have gz2 : w.heap.size + 1 < w14.heap.size := by omega)
  go_wp2_with fail
  refine (heldIntS_any _ _ _ _ _ (Mem.below (Mem.of_own hm10) (by (repeat (first | exact Below.refl _ _ | assumption | (refine Below.alloc ?_ (by first | omega | (simp; done) | (simp; omega)) _) | (refine Below.setCell ?_ (by first | omega | (simp; done) | (simp; omega)) _) | (refine Below.drew ?_) | (refine Below.drewN ?_ _) | (refine Below.next (by assumption) ?_ (by first | omega | (simp; done) | (simp; omega))))))) (by first | omega | exact hV) (by omega) (by omega)).mono ?_
  rintro e w15 ⟨rfl, rfl⟩
  go_wp2_with fail
  go_ret
  exact ⟨rfl, by (repeat (first | exact Below.refl _ _ | assumption | (refine Below.alloc ?_ (by first | omega | (simp; done) | (simp; omega)) _) | (refine Below.setCell ?_ (by first | omega | (simp; done) | (simp; omega)) _) | (refine Below.drew ?_) | (refine Below.drewN ?_ _) | (refine Below.next (by assumption) ?_ (by first | omega | (simp; done) | (simp; omega)))))⟩
end Go.Proofs.Ytffnecgdgompeaa
