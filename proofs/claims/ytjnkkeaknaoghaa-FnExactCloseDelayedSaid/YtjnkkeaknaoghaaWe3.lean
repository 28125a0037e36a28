/-
  Walks of laws: CloseDelayed.
-/
import Derived.Test.YtjnkkeaknaoghaaCpy
import Derived.Test.YtjnkkeaknaoghaaCpySp
import Derived.Test.YtjnkkeaknaoghaaPrs
import Derived.Test.YtjnkkeaknaoghaaTrm
import Derived.Deep.RegionHeld3
namespace Go.Proofs.Ytjnkkeaknaoghaa
open Go.RowKit Go.Sort

theorem keepG {W w' : World} {p : Addr} {v : Value} {row : Option Nat} (hg : W.grownBy w' row) (h : W.cell? p = some v) (hr : ∀ k, row = some k → p.block ≠ k) : w'.cell? p = some v := hg.cell h (fun e => hr p.block e.symm rfl)
theorem keepA {w : World} {o : Obj} {p : Addr} {v : Value} (h : w.cell? p = some v) : (w.alloc o).cell? p = some v := keep1 ((Below.refl _ _).alloc (Nat.le_refl _) o) h
theorem cpV_le (F T : List Sp) (n : Int) (P D : List Int) (L : Int) : (cpV F T n P D L).length ≤ 1048576 := by
  unfold cpV
  split
  · rename_i h
    simp only [irOk, Bool.and_eq_true] at h
    have h1 := dlOk_iff.1 h.1
    have h2 := rpOk_iff.1 h1.1
    have h3 := plOk_iff.1 (trOk_iff.1 h2.1).2.2.2.2
    have := clTo_len (mvT F T n P) D L (N := P.length) (by omega) P.length
    unfold clV
    omega
  · simp
theorem keepN8 {W w' : World} {p0 p1 p2 p3 p4 p5 p6 p7 : Addr} {v0 v1 v2 v3 v4 v5 v6 v7 : Value} (hq : Below W.heap.size W w') (h : W.cell? p0 = some v0 ∧ W.cell? p1 = some v1 ∧ W.cell? p2 = some v2 ∧ W.cell? p3 = some v3 ∧ W.cell? p4 = some v4 ∧ W.cell? p5 = some v5 ∧ W.cell? p6 = some v6 ∧ W.cell? p7 = some v7) : w'.cell? p0 = some v0 ∧ w'.cell? p1 = some v1 ∧ w'.cell? p2 = some v2 ∧ w'.cell? p3 = some v3 ∧ w'.cell? p4 = some v4 ∧ w'.cell? p5 = some v5 ∧ w'.cell? p6 = some v6 ∧ w'.cell? p7 = some v7 :=
  ⟨keep1 hq h.1, keep1 hq h.2.1, keep1 hq h.2.2.1, keep1 hq h.2.2.2.1, keep1 hq h.2.2.2.2.1, keep1 hq h.2.2.2.2.2.1, keep1 hq h.2.2.2.2.2.2.1, keep1 hq h.2.2.2.2.2.2.2⟩
set_option maxRecDepth 100000 in
set_option maxHeartbeats 6400000 in
theorem FnExactCloseDelayed_walk (A0a : Option Addr) (c0a : Nat) (L0a : List Sp) (A0b : Option Addr) (c0b : Nat) (L0b : List Sp) (N0 : Int) (A0c : Option Addr) (c0c : Nat) (L0c : List Int) (A1 : Option Addr) (c1 : Nat) (L1 : List Int) (a2 : Int) (w : World) (m0a : Mem w A0a (spots L0a)) (l0a : L0a.length ≤ c0a) (n0a : c0a ≤ maxLen) (m0b : Mem w A0b (spots L0b)) (l0b : L0b.length ≤ c0b) (n0b : c0b ≤ maxLen) (m0c : Mem w A0c (ints L0c)) (l0c : L0c.length ≤ c0c) (n0c : c0c ≤ maxLen) (m1 : Mem w A1 (ints L1)) (_ : ∀ a ∈ L1, okInt a) (l1 : L1.length ≤ c1) (n1 : c1 ≤ maxLen) (_ : okInt a2) : Calls Try.prog 8 #[.agg #[.slice A0a L0a.length c0a, .slice A0b L0b.length c0b, .int .i64 N0, .slice A0c L0c.length c0c], .slice A1 L1.length c1, .int .i64 a2] w fun e w' => e = .returned (.bool true) ∧ Below w.heap.size w w' := by
  unfold maxLen at n0a
  unfold maxLen at n0b
  unfold maxLen at n0c
  unfold maxLen at n1
  by_cases t1 : L1.length ≤ 1048576
  case neg =>
    go_enter Try.func8, Try.ntmps8
    go_wp2_with fail
    go_ret
    exact ⟨rfl, by (repeat (first | exact Below.refl _ _ | assumption | (refine Below.alloc ?_ (by first | omega | (simp; done) | (simp; omega)) _) | (refine Below.setCell ?_ (by first | omega | (simp; done) | (simp; omega)) _) | (refine Below.drew ?_) | (refine Below.drewN ?_ _) | (refine Below.next (by assumption) ?_ (by first | omega | (simp; done) | (simp; omega)))))⟩
  by_cases t0 : L0a.length + L0b.length + L0c.length ≤ 1048576
  case neg =>
    go_enter Try.func8, Try.ntmps8
    go_wp2_with (first | (go_at_call 11; refine (szTransition_no _ _ _ _ _ _ _ _ _ _ _ _ (by omega) (by omega) (by omega) (by omega) (by omega) (by omega)).mono ?_; rintro e w' ⟨rfl, hq⟩; obtain ⟨hz, hc, hf⟩ := bel hq; (try simp at hz); (try simp at hz); (try have gz1 : w.heap.size < w'.heap.size := by omega); (try have gz2 : w.heap.size + 1 < w'.heap.size := by omega); (try have gz3 : wr.heap.size < w'.heap.size := by omega)) | (go_at_call 11; refine (szTransition_yes _ _ _ _ _ _ _ _ _ _ _ _ (by omega) (by omega) (by omega)).mono ?_; rintro e w' ⟨rfl, hq⟩; obtain ⟨hz, hc, hf⟩ := bel hq; (try simp at hz); (try simp at hz); (try have gz1 : w.heap.size < w'.heap.size := by omega); (try have gz2 : w.heap.size + 1 < w'.heap.size := by omega); (try have gz3 : wr.heap.size < w'.heap.size := by omega)))
    go_ret
    exact ⟨rfl, by (repeat (first | exact Below.refl _ _ | assumption | (refine Below.alloc ?_ (by first | omega | (simp; done) | (simp; omega)) _) | (refine Below.setCell ?_ (by first | omega | (simp; done) | (simp; omega)) _) | (refine Below.drew ?_) | (refine Below.drewN ?_ _) | (refine Below.next (by assumption) ?_ (by first | omega | (simp; done) | (simp; omega)))))⟩
  have u0a : L0a.length ≤ 1048576 := by omega
  have u0b : L0b.length ≤ 1048576 := by omega
  have u0c : L0c.length ≤ 1048576 := by omega
  have u1 : L1.length ≤ 1048576 := by omega
  have hV0 : (cpV L0a L0b N0 L0c L1 a2).length ≤ 1048576 := cpV_le L0a L0b N0 L0c L1 a2
  go_enter Try.func8, Try.ntmps8
  go_wp2_with fail
  refine (szTransition_yes _ _ _ _ _ _ _ _ _ _ _ _ (by omega) (by omega) (by omega)).mono ?_
  rintro e w1 ⟨rfl, hq1⟩
  have f0_0_1 : w1.cell? ⟨w.heap.size, 0, none⟩ = some (.slice A0a L0a.length c0a) := keep1 hq1 (by first | (simp [go_sem]; done))
  have f0_1_1 : w1.cell? ⟨w.heap.size, 1, none⟩ = some (.slice A0b L0b.length c0b) := keep1 hq1 (by first | (simp [go_sem]; done))
  have f0_2_1 : w1.cell? ⟨w.heap.size, 2, none⟩ = some (.int .i64 N0) := keep1 hq1 (by first | (simp [go_sem]; done))
  have f0_3_1 : w1.cell? ⟨w.heap.size, 3, none⟩ = some (.slice A0c L0c.length c0c) := keep1 hq1 (by first | (simp [go_sem]; done))
  have g0_1 : w.heap.size < w1.heap.size := World.block_lt_of_cell? _ _ f0_0_1
  have hz1 := hq1.size
  (try simp at hz1)
  go_wp2_with fail
  refine (toTransition_any _ _ L0a _ _ L0b N0 _ _ L0c _ (m0a.below (by (repeat (first | exact Below.refl _ _ | assumption | (refine Below.alloc ?_ (by first | omega | (simp; done) | (simp; omega)) _) | (refine Below.setCell ?_ (by first | omega | (simp; done) | (simp; omega)) _) | (refine Below.drew ?_) | (refine Below.drewN ?_ _) | (refine Below.next (by assumption) ?_ (by first | omega | (simp; done) | (simp; omega))))))) (m0b.below (by (repeat (first | exact Below.refl _ _ | assumption | (refine Below.alloc ?_ (by first | omega | (simp; done) | (simp; omega)) _) | (refine Below.setCell ?_ (by first | omega | (simp; done) | (simp; omega)) _) | (refine Below.drew ?_) | (refine Below.drewN ?_ _) | (refine Below.next (by assumption) ?_ (by first | omega | (simp; done) | (simp; omega))))))) (m0c.below (by (repeat (first | exact Below.refl _ _ | assumption | (refine Below.alloc ?_ (by first | omega | (simp; done) | (simp; omega)) _) | (refine Below.setCell ?_ (by first | omega | (simp; done) | (simp; omega)) _) | (refine Below.drew ?_) | (refine Below.drewN ?_ _) | (refine Below.next (by assumption) ?_ (by first | omega | (simp; done) | (simp; omega))))))) u0a u0b u0c).mono ?_
  rintro e w2 ⟨Ar2_0a, cr2_0a, Ar2_0b, cr2_0b, Ar2_0c, cr2_0c, sa2_0, sb2_0, rfl, hw2_0a, hw2_0b, hw2_0c, ho2_0a, ho2_0b, ho2_0c, hs2_0, hq2⟩
  have f0_0_2 : w2.cell? ⟨w.heap.size, 0, none⟩ = some (.slice A0a L0a.length c0a) := keep1 hq2 (by first | exact f0_0_1 | exact keepA f0_0_1 | exact keepA (keepA f0_0_1) | exact keepA (keepA (keepA f0_0_1)))
  have f0_1_2 : w2.cell? ⟨w.heap.size, 1, none⟩ = some (.slice A0b L0b.length c0b) := keep1 hq2 (by first | exact f0_1_1 | exact keepA f0_1_1 | exact keepA (keepA f0_1_1) | exact keepA (keepA (keepA f0_1_1)))
  have f0_2_2 : w2.cell? ⟨w.heap.size, 2, none⟩ = some (.int .i64 N0) := keep1 hq2 (by first | exact f0_2_1 | exact keepA f0_2_1 | exact keepA (keepA f0_2_1) | exact keepA (keepA (keepA f0_2_1)))
  have f0_3_2 : w2.cell? ⟨w.heap.size, 3, none⟩ = some (.slice A0c L0c.length c0c) := keep1 hq2 (by first | exact f0_3_1 | exact keepA f0_3_1 | exact keepA (keepA f0_3_1) | exact keepA (keepA (keepA f0_3_1)))
  have g0_2 : w.heap.size < w2.heap.size := World.block_lt_of_cell? _ _ f0_0_2
  clear f0_0_1 f0_1_1 f0_2_1 f0_3_1 g0_1
  have hz2 := hq2.size
  (try simp at hz2)
  go_wp2_with fail
  refine (toIntS_any _ _ _ _ (m1.below (by (repeat (first | exact Below.refl _ _ | assumption | (refine Below.alloc ?_ (by first | omega | (simp; done) | (simp; omega)) _) | (refine Below.setCell ?_ (by first | omega | (simp; done) | (simp; omega)) _) | (refine Below.drew ?_) | (refine Below.drewN ?_ _) | (refine Below.next (by assumption) ?_ (by first | omega | (simp; done) | (simp; omega))))))) (by omega)).mono ?_
  rintro e w3 ⟨Ar3_0, cr3_0, rfl, ho3_0, hq3⟩
  have f0_0_3 : w3.cell? ⟨w.heap.size, 0, none⟩ = some (.slice A0a L0a.length c0a) := keep1 hq3 (by first | exact f0_0_2 | exact keepA f0_0_2 | exact keepA (keepA f0_0_2) | exact keepA (keepA (keepA f0_0_2)))
  have f0_1_3 : w3.cell? ⟨w.heap.size, 1, none⟩ = some (.slice A0b L0b.length c0b) := keep1 hq3 (by first | exact f0_1_2 | exact keepA f0_1_2 | exact keepA (keepA f0_1_2) | exact keepA (keepA (keepA f0_1_2)))
  have f0_2_3 : w3.cell? ⟨w.heap.size, 2, none⟩ = some (.int .i64 N0) := keep1 hq3 (by first | exact f0_2_2 | exact keepA f0_2_2 | exact keepA (keepA f0_2_2) | exact keepA (keepA (keepA f0_2_2)))
  have f0_3_3 : w3.cell? ⟨w.heap.size, 3, none⟩ = some (.slice A0c L0c.length c0c) := keep1 hq3 (by first | exact f0_3_2 | exact keepA f0_3_2 | exact keepA (keepA f0_3_2) | exact keepA (keepA (keepA f0_3_2)))
  have g0_3 : w.heap.size < w3.heap.size := World.block_lt_of_cell? _ _ f0_0_3
  clear f0_0_2 f0_1_2 f0_2_2 f0_3_2 g0_2
  have hz3 := hq3.size
  (try simp at hz3)
  go_wp2_with fail
  refine (spec_CloseDelayed_pr _ _ L0a _ _ L0b N0 _ _ L0c _ _ L1 a2 _ (Mem.below (Mem.of_own hw2_0a) (by (repeat (first | exact Below.refl _ _ | assumption | (refine Below.alloc ?_ (by first | omega | (simp; done) | (simp; omega)) _) | (refine Below.setCell ?_ (by first | omega | (simp; done) | (simp; omega)) _) | (refine Below.drew ?_) | (refine Below.drewN ?_ _) | (refine Below.next (by assumption) ?_ (by first | omega | (simp; done) | (simp; omega))))))) (Mem.below (Mem.of_own hw2_0b) (by (repeat (first | exact Below.refl _ _ | assumption | (refine Below.alloc ?_ (by first | omega | (simp; done) | (simp; omega)) _) | (refine Below.setCell ?_ (by first | omega | (simp; done) | (simp; omega)) _) | (refine Below.drew ?_) | (refine Below.drewN ?_ _) | (refine Below.next (by assumption) ?_ (by first | omega | (simp; done) | (simp; omega))))))) (Mem.below (Mem.of_own hw2_0c) (by (repeat (first | exact Below.refl _ _ | assumption | (refine Below.alloc ?_ (by first | omega | (simp; done) | (simp; omega)) _) | (refine Below.setCell ?_ (by first | omega | (simp; done) | (simp; omega)) _) | (refine Below.drew ?_) | (refine Below.drewN ?_ _) | (refine Below.next (by assumption) ?_ (by first | omega | (simp; done) | (simp; omega))))))) u0a u0b u0c (own_cap hw2_0a) (own_cap hw2_0b) (own_cap hw2_0c) (Mem.below (Mem.of_own ho3_0) (by (repeat (first | exact Below.refl _ _ | assumption | (refine Below.alloc ?_ (by first | omega | (simp; done) | (simp; omega)) _) | (refine Below.setCell ?_ (by first | omega | (simp; done) | (simp; omega)) _) | (refine Below.drew ?_) | (refine Below.drewN ?_ _) | (refine Below.next (by assumption) ?_ (by first | omega | (simp; done) | (simp; omega))))))) u1 (own_cap ho3_0)).mono ?_
  rintro e w4 ⟨Ar4_0, cr4_0, rfl, ho4_0, hq4⟩
  have f0_0_4 : w4.cell? ⟨w.heap.size, 0, none⟩ = some (.slice A0a L0a.length c0a) := keep1 hq4 (by first | exact f0_0_3 | exact keepA f0_0_3 | exact keepA (keepA f0_0_3) | exact keepA (keepA (keepA f0_0_3)))
  have f0_1_4 : w4.cell? ⟨w.heap.size, 1, none⟩ = some (.slice A0b L0b.length c0b) := keep1 hq4 (by first | exact f0_1_3 | exact keepA f0_1_3 | exact keepA (keepA f0_1_3) | exact keepA (keepA (keepA f0_1_3)))
  have f0_2_4 : w4.cell? ⟨w.heap.size, 2, none⟩ = some (.int .i64 N0) := keep1 hq4 (by first | exact f0_2_3 | exact keepA f0_2_3 | exact keepA (keepA f0_2_3) | exact keepA (keepA (keepA f0_2_3)))
  have f0_3_4 : w4.cell? ⟨w.heap.size, 3, none⟩ = some (.slice A0c L0c.length c0c) := keep1 hq4 (by first | exact f0_3_3 | exact keepA f0_3_3 | exact keepA (keepA f0_3_3) | exact keepA (keepA (keepA f0_3_3)))
  have g0_4 : w.heap.size < w4.heap.size := World.block_lt_of_cell? _ _ f0_0_4
  clear f0_0_3 f0_1_3 f0_2_3 f0_3_3 g0_3
  have hz4 := hq4.size
  (try simp at hz4)
  go_wp2_with fail
  refine (toTransition_any _ _ L0a _ _ L0b N0 _ _ L0c _ (m0a.below (by (repeat (first | exact Below.refl _ _ | assumption | (refine Below.alloc ?_ (by first | omega | (simp; done) | (simp; omega)) _) | (refine Below.setCell ?_ (by first | omega | (simp; done) | (simp; omega)) _) | (refine Below.drew ?_) | (refine Below.drewN ?_ _) | (refine Below.next (by assumption) ?_ (by first | omega | (simp; done) | (simp; omega))))))) (m0b.below (by (repeat (first | exact Below.refl _ _ | assumption | (refine Below.alloc ?_ (by first | omega | (simp; done) | (simp; omega)) _) | (refine Below.setCell ?_ (by first | omega | (simp; done) | (simp; omega)) _) | (refine Below.drew ?_) | (refine Below.drewN ?_ _) | (refine Below.next (by assumption) ?_ (by first | omega | (simp; done) | (simp; omega))))))) (m0c.below (by (repeat (first | exact Below.refl _ _ | assumption | (refine Below.alloc ?_ (by first | omega | (simp; done) | (simp; omega)) _) | (refine Below.setCell ?_ (by first | omega | (simp; done) | (simp; omega)) _) | (refine Below.drew ?_) | (refine Below.drewN ?_ _) | (refine Below.next (by assumption) ?_ (by first | omega | (simp; done) | (simp; omega))))))) u0a u0b u0c).mono ?_
  rintro e w5 ⟨Ar5_0a, cr5_0a, Ar5_0b, cr5_0b, Ar5_0c, cr5_0c, sa5_0, sb5_0, rfl, hw5_0a, hw5_0b, hw5_0c, ho5_0a, ho5_0b, ho5_0c, hs5_0, hq5⟩
  have f0_0_5 : w5.cell? ⟨w.heap.size, 0, none⟩ = some (.slice A0a L0a.length c0a) := keep1 hq5 (by first | exact f0_0_4 | exact keepA f0_0_4 | exact keepA (keepA f0_0_4) | exact keepA (keepA (keepA f0_0_4)))
  have f0_1_5 : w5.cell? ⟨w.heap.size, 1, none⟩ = some (.slice A0b L0b.length c0b) := keep1 hq5 (by first | exact f0_1_4 | exact keepA f0_1_4 | exact keepA (keepA f0_1_4) | exact keepA (keepA (keepA f0_1_4)))
  have f0_2_5 : w5.cell? ⟨w.heap.size, 2, none⟩ = some (.int .i64 N0) := keep1 hq5 (by first | exact f0_2_4 | exact keepA f0_2_4 | exact keepA (keepA f0_2_4) | exact keepA (keepA (keepA f0_2_4)))
  have f0_3_5 : w5.cell? ⟨w.heap.size, 3, none⟩ = some (.slice A0c L0c.length c0c) := keep1 hq5 (by first | exact f0_3_4 | exact keepA f0_3_4 | exact keepA (keepA f0_3_4) | exact keepA (keepA (keepA f0_3_4)))
  have g0_5 : w.heap.size < w5.heap.size := World.block_lt_of_cell? _ _ f0_0_5
  clear f0_0_4 f0_1_4 f0_2_4 f0_3_4 g0_4
  have hz5 := hq5.size
  (try simp at hz5)
  go_wp2_with fail
  refine (toIntS_any _ _ _ _ (m1.below (by (repeat (first | exact Below.refl _ _ | assumption | (refine Below.alloc ?_ (by first | omega | (simp; done) | (simp; omega)) _) | (refine Below.setCell ?_ (by first | omega | (simp; done) | (simp; omega)) _) | (refine Below.drew ?_) | (refine Below.drewN ?_ _) | (refine Below.next (by assumption) ?_ (by first | omega | (simp; done) | (simp; omega))))))) (by omega)).mono ?_
  rintro e w6 ⟨Ar6_0, cr6_0, rfl, ho6_0, hq6⟩
  have f0_0_6 : w6.cell? ⟨w.heap.size, 0, none⟩ = some (.slice A0a L0a.length c0a) := keep1 hq6 (by first | exact f0_0_5 | exact keepA f0_0_5 | exact keepA (keepA f0_0_5) | exact keepA (keepA (keepA f0_0_5)))
  have f0_1_6 : w6.cell? ⟨w.heap.size, 1, none⟩ = some (.slice A0b L0b.length c0b) := keep1 hq6 (by first | exact f0_1_5 | exact keepA f0_1_5 | exact keepA (keepA f0_1_5) | exact keepA (keepA (keepA f0_1_5)))
  have f0_2_6 : w6.cell? ⟨w.heap.size, 2, none⟩ = some (.int .i64 N0) := keep1 hq6 (by first | exact f0_2_5 | exact keepA f0_2_5 | exact keepA (keepA f0_2_5) | exact keepA (keepA (keepA f0_2_5)))
  have f0_3_6 : w6.cell? ⟨w.heap.size, 3, none⟩ = some (.slice A0c L0c.length c0c) := keep1 hq6 (by first | exact f0_3_5 | exact keepA f0_3_5 | exact keepA (keepA f0_3_5) | exact keepA (keepA (keepA f0_3_5)))
  have f1_0_6 : w6.cell? ⟨w5.heap.size, 0, none⟩ = some (.slice Ar5_0a L0a.length cr5_0a) := keep1 hq6 (by first | (simp [go_sem]; done))
  have f1_1_6 : w6.cell? ⟨w5.heap.size, 1, none⟩ = some (.slice Ar5_0b L0b.length cr5_0b) := keep1 hq6 (by first | (simp [go_sem]; done))
  have f1_2_6 : w6.cell? ⟨w5.heap.size, 2, none⟩ = some (.int .i64 N0) := keep1 hq6 (by first | (simp [go_sem]; done))
  have f1_3_6 : w6.cell? ⟨w5.heap.size, 3, none⟩ = some (.slice Ar5_0c L0c.length cr5_0c) := keep1 hq6 (by first | (simp [go_sem]; done))
  have g0_6 : w.heap.size < w6.heap.size := World.block_lt_of_cell? _ _ f0_0_6
  have g1_6 : w5.heap.size < w6.heap.size := World.block_lt_of_cell? _ _ f1_0_6
  clear f0_0_5 f0_1_5 f0_2_5 f0_3_5 g0_5
  have hz6 := hq6.size
  (try simp at hz6)
  go_wp2_with fail
  refine (impl_CloseDelayed_pr _ _ L0a _ _ L0b N0 _ _ L0c _ _ L1 a2 _ (Mem.below (Mem.of_own hw5_0a) (by (repeat (first | exact Below.refl _ _ | assumption | (refine Below.alloc ?_ (by first | omega | (simp; done) | (simp; omega)) _) | (refine Below.setCell ?_ (by first | omega | (simp; done) | (simp; omega)) _) | (refine Below.drew ?_) | (refine Below.drewN ?_ _) | (refine Below.next (by assumption) ?_ (by first | omega | (simp; done) | (simp; omega))))))) (Mem.below (Mem.of_own hw5_0b) (by (repeat (first | exact Below.refl _ _ | assumption | (refine Below.alloc ?_ (by first | omega | (simp; done) | (simp; omega)) _) | (refine Below.setCell ?_ (by first | omega | (simp; done) | (simp; omega)) _) | (refine Below.drew ?_) | (refine Below.drewN ?_ _) | (refine Below.next (by assumption) ?_ (by first | omega | (simp; done) | (simp; omega))))))) (Mem.below (Mem.of_own hw5_0c) (by (repeat (first | exact Below.refl _ _ | assumption | (refine Below.alloc ?_ (by first | omega | (simp; done) | (simp; omega)) _) | (refine Below.setCell ?_ (by first | omega | (simp; done) | (simp; omega)) _) | (refine Below.drew ?_) | (refine Below.drewN ?_ _) | (refine Below.next (by assumption) ?_ (by first | omega | (simp; done) | (simp; omega))))))) u0a u0b u0c (own_cap hw5_0a) (own_cap hw5_0b) (own_cap hw5_0c) (Mem.below (Mem.of_own ho6_0) (by (repeat (first | exact Below.refl _ _ | assumption | (refine Below.alloc ?_ (by first | omega | (simp; done) | (simp; omega)) _) | (refine Below.setCell ?_ (by first | omega | (simp; done) | (simp; omega)) _) | (refine Below.drew ?_) | (refine Below.drewN ?_ _) | (refine Below.next (by assumption) ?_ (by first | omega | (simp; done) | (simp; omega))))))) u1 (own_cap ho6_0)).mono ?_
  rintro e w7 ⟨Ar7_0, cr7_0, rfl, ho7_0, hq7⟩
  have f0_0_7 : w7.cell? ⟨w.heap.size, 0, none⟩ = some (.slice A0a L0a.length c0a) := keep1 hq7 (by first | exact f0_0_6 | exact keepA f0_0_6 | exact keepA (keepA f0_0_6) | exact keepA (keepA (keepA f0_0_6)))
  have f0_1_7 : w7.cell? ⟨w.heap.size, 1, none⟩ = some (.slice A0b L0b.length c0b) := keep1 hq7 (by first | exact f0_1_6 | exact keepA f0_1_6 | exact keepA (keepA f0_1_6) | exact keepA (keepA (keepA f0_1_6)))
  have f0_2_7 : w7.cell? ⟨w.heap.size, 2, none⟩ = some (.int .i64 N0) := keep1 hq7 (by first | exact f0_2_6 | exact keepA f0_2_6 | exact keepA (keepA f0_2_6) | exact keepA (keepA (keepA f0_2_6)))
  have f0_3_7 : w7.cell? ⟨w.heap.size, 3, none⟩ = some (.slice A0c L0c.length c0c) := keep1 hq7 (by first | exact f0_3_6 | exact keepA f0_3_6 | exact keepA (keepA f0_3_6) | exact keepA (keepA (keepA f0_3_6)))
  have f1_0_7 : w7.cell? ⟨w5.heap.size, 0, none⟩ = some (.slice Ar5_0a L0a.length cr5_0a) := keep1 hq7 (by first | exact f1_0_6 | exact keepA f1_0_6 | exact keepA (keepA f1_0_6) | exact keepA (keepA (keepA f1_0_6)))
  have f1_1_7 : w7.cell? ⟨w5.heap.size, 1, none⟩ = some (.slice Ar5_0b L0b.length cr5_0b) := keep1 hq7 (by first | exact f1_1_6 | exact keepA f1_1_6 | exact keepA (keepA f1_1_6) | exact keepA (keepA (keepA f1_1_6)))
  have f1_2_7 : w7.cell? ⟨w5.heap.size, 2, none⟩ = some (.int .i64 N0) := keep1 hq7 (by first | exact f1_2_6 | exact keepA f1_2_6 | exact keepA (keepA f1_2_6) | exact keepA (keepA (keepA f1_2_6)))
  have f1_3_7 : w7.cell? ⟨w5.heap.size, 3, none⟩ = some (.slice Ar5_0c L0c.length cr5_0c) := keep1 hq7 (by first | exact f1_3_6 | exact keepA f1_3_6 | exact keepA (keepA f1_3_6) | exact keepA (keepA (keepA f1_3_6)))
  have g0_7 : w.heap.size < w7.heap.size := World.block_lt_of_cell? _ _ f0_0_7
  have g1_7 : w5.heap.size < w7.heap.size := World.block_lt_of_cell? _ _ f1_0_7
  clear f0_0_6 f0_1_6 f0_2_6 f0_3_6 f1_0_6 f1_1_6 f1_2_6 f1_3_6 g0_6 g1_6
  have hz7 := hq7.size
  (try simp at hz7)
  go_wp2_with fail
  refine (eqIntSS_same _ _ _ _ _ _ _ _ (cpV L0a L0b N0 L0c L1 a2) _ (PR.below ho7_0 (by (repeat (first | exact Below.refl _ _ | assumption | (refine Below.alloc ?_ (by first | omega | (simp; done) | (simp; omega)) _) | (refine Below.setCell ?_ (by first | omega | (simp; done) | (simp; omega)) _) | (refine Below.drew ?_) | (refine Below.drewN ?_ _) | (refine Below.next (by assumption) ?_ (by first | omega | (simp; done) | (simp; omega))))))) (PR.below ho4_0 (by (repeat (first | exact Below.refl _ _ | assumption | (refine Below.alloc ?_ (by first | omega | (simp; done) | (simp; omega)) _) | (refine Below.setCell ?_ (by first | omega | (simp; done) | (simp; omega)) _) | (refine Below.drew ?_) | (refine Below.drewN ?_ _) | (refine Below.next (by assumption) ?_ (by first | omega | (simp; done) | (simp; omega))))))) (by first | omega | exact hV0)).mono ?_
  rintro e w8 ⟨rfl, hq8⟩
  have f0_0_8 : w8.cell? ⟨w.heap.size, 0, none⟩ = some (.slice A0a L0a.length c0a) := keep1 hq8 (by first | exact f0_0_7 | exact keepA f0_0_7 | exact keepA (keepA f0_0_7) | exact keepA (keepA (keepA f0_0_7)))
  have f0_1_8 : w8.cell? ⟨w.heap.size, 1, none⟩ = some (.slice A0b L0b.length c0b) := keep1 hq8 (by first | exact f0_1_7 | exact keepA f0_1_7 | exact keepA (keepA f0_1_7) | exact keepA (keepA (keepA f0_1_7)))
  have f0_2_8 : w8.cell? ⟨w.heap.size, 2, none⟩ = some (.int .i64 N0) := keep1 hq8 (by first | exact f0_2_7 | exact keepA f0_2_7 | exact keepA (keepA f0_2_7) | exact keepA (keepA (keepA f0_2_7)))
  have f0_3_8 : w8.cell? ⟨w.heap.size, 3, none⟩ = some (.slice A0c L0c.length c0c) := keep1 hq8 (by first | exact f0_3_7 | exact keepA f0_3_7 | exact keepA (keepA f0_3_7) | exact keepA (keepA (keepA f0_3_7)))
  have f1_0_8 : w8.cell? ⟨w5.heap.size, 0, none⟩ = some (.slice Ar5_0a L0a.length cr5_0a) := keep1 hq8 (by first | exact f1_0_7 | exact keepA f1_0_7 | exact keepA (keepA f1_0_7) | exact keepA (keepA (keepA f1_0_7)))
  have f1_1_8 : w8.cell? ⟨w5.heap.size, 1, none⟩ = some (.slice Ar5_0b L0b.length cr5_0b) := keep1 hq8 (by first | exact f1_1_7 | exact keepA f1_1_7 | exact keepA (keepA f1_1_7) | exact keepA (keepA (keepA f1_1_7)))
  have f1_2_8 : w8.cell? ⟨w5.heap.size, 2, none⟩ = some (.int .i64 N0) := keep1 hq8 (by first | exact f1_2_7 | exact keepA f1_2_7 | exact keepA (keepA f1_2_7) | exact keepA (keepA (keepA f1_2_7)))
  have f1_3_8 : w8.cell? ⟨w5.heap.size, 3, none⟩ = some (.slice Ar5_0c L0c.length cr5_0c) := keep1 hq8 (by first | exact f1_3_7 | exact keepA f1_3_7 | exact keepA (keepA f1_3_7) | exact keepA (keepA (keepA f1_3_7)))
  have g0_8 : w.heap.size < w8.heap.size := World.block_lt_of_cell? _ _ f0_0_8
  have g1_8 : w5.heap.size < w8.heap.size := World.block_lt_of_cell? _ _ f1_0_8
  clear f0_0_7 f0_1_7 f0_2_7 f0_3_7 f1_0_7 f1_1_7 f1_2_7 f1_3_7 g0_7 g1_7
  have hz8 := hq8.size
  (try simp at hz8)
  go_wp2_with fail
  go_region_held3 (fun w' => w'.cell? ⟨w.heap.size, 0, none⟩ = some (.slice A0a L0a.length c0a) ∧ w'.cell? ⟨w.heap.size, 1, none⟩ = some (.slice A0b L0b.length c0b) ∧ w'.cell? ⟨w.heap.size, 2, none⟩ = some (.int .i64 N0) ∧ w'.cell? ⟨w.heap.size, 3, none⟩ = some (.slice A0c L0c.length c0c) ∧ w'.cell? ⟨w5.heap.size, 0, none⟩ = some (.slice Ar5_0a L0a.length cr5_0a) ∧ w'.cell? ⟨w5.heap.size, 1, none⟩ = some (.slice Ar5_0b L0b.length cr5_0b) ∧ w'.cell? ⟨w5.heap.size, 2, none⟩ = some (.int .i64 N0) ∧ w'.cell? ⟨w5.heap.size, 3, none⟩ = some (.slice Ar5_0c L0c.length cr5_0c)) (first | assumption | exact ⟨f0_0_8, f0_1_8, f0_2_8, f0_3_8, f1_0_8, f1_1_8, f1_2_8, f1_3_8⟩ | exact ⟨(keepA f0_0_8), (keepA f0_1_8), (keepA f0_2_8), (keepA f0_3_8), (keepA f1_0_8), (keepA f1_1_8), (keepA f1_2_8), (keepA f1_3_8)⟩ | exact ⟨(keepA (keepA f0_0_8)), (keepA (keepA f0_1_8)), (keepA (keepA f0_2_8)), (keepA (keepA f0_3_8)), (keepA (keepA f1_0_8)), (keepA (keepA f1_1_8)), (keepA (keepA f1_2_8)), (keepA (keepA f1_3_8))⟩) (first | (go_at_call 13; (with_reducible refine (toTransition_any _ _ L0a _ _ L0b N0 _ _ L0c _ (m0a.below (by (repeat (first | exact Below.refl _ _ | assumption | (refine Below.alloc ?_ (by first | omega | (simp; done) | (simp; omega)) _) | (refine Below.setCell ?_ (by first | omega | (simp; done) | (simp; omega)) _) | (refine Below.drew ?_) | (refine Below.drewN ?_ _) | (refine Below.next (by assumption) ?_ (by first | omega | (simp; done) | (simp; omega))))))) (m0b.below (by (repeat (first | exact Below.refl _ _ | assumption | (refine Below.alloc ?_ (by first | omega | (simp; done) | (simp; omega)) _) | (refine Below.setCell ?_ (by first | omega | (simp; done) | (simp; omega)) _) | (refine Below.drew ?_) | (refine Below.drewN ?_ _) | (refine Below.next (by assumption) ?_ (by first | omega | (simp; done) | (simp; omega))))))) (m0c.below (by (repeat (first | exact Below.refl _ _ | assumption | (refine Below.alloc ?_ (by first | omega | (simp; done) | (simp; omega)) _) | (refine Below.setCell ?_ (by first | omega | (simp; done) | (simp; omega)) _) | (refine Below.drew ?_) | (refine Below.drewN ?_ _) | (refine Below.next (by assumption) ?_ (by first | omega | (simp; done) | (simp; omega))))))) u0a u0b u0c).mono ?_); rintro e w9 ⟨Ar9_0a, cr9_0a, Ar9_0b, cr9_0b, Ar9_0c, cr9_0c, sa9_0, sb9_0, rfl, hw9_0a, hw9_0b, hw9_0c, ho9_0a, ho9_0b, ho9_0c, hs9_0, hq9⟩; have hz9 := hq9.size; (try simp at hz9); have hS9 := keepN8 hq9 (by assumption)) | (go_at_call 17; (with_reducible refine (eqTransition_same _ _ L0a _ _ L0b N0 _ _ L0c _ _ _ _ _ _ _ (Mem.below (Mem.of_own hw5_0a) (by (repeat (first | exact Below.refl _ _ | assumption | (refine Below.alloc ?_ (by first | omega | (simp; done) | (simp; omega)) _) | (refine Below.setCell ?_ (by first | omega | (simp; done) | (simp; omega)) _) | (refine Below.drew ?_) | (refine Below.drewN ?_ _) | (refine Below.next (by assumption) ?_ (by first | omega | (simp; done) | (simp; omega))))))) (Mem.below (Mem.of_own hw5_0b) (by (repeat (first | exact Below.refl _ _ | assumption | (refine Below.alloc ?_ (by first | omega | (simp; done) | (simp; omega)) _) | (refine Below.setCell ?_ (by first | omega | (simp; done) | (simp; omega)) _) | (refine Below.drew ?_) | (refine Below.drewN ?_ _) | (refine Below.next (by assumption) ?_ (by first | omega | (simp; done) | (simp; omega))))))) (Mem.below (Mem.of_own hw5_0c) (by (repeat (first | exact Below.refl _ _ | assumption | (refine Below.alloc ?_ (by first | omega | (simp; done) | (simp; omega)) _) | (refine Below.setCell ?_ (by first | omega | (simp; done) | (simp; omega)) _) | (refine Below.drew ?_) | (refine Below.drewN ?_ _) | (refine Below.next (by assumption) ?_ (by first | omega | (simp; done) | (simp; omega))))))) (Mem.below (Mem.of_own hw9_0a) (by (repeat (first | exact Below.refl _ _ | assumption | (refine Below.alloc ?_ (by first | omega | (simp; done) | (simp; omega)) _) | (refine Below.setCell ?_ (by first | omega | (simp; done) | (simp; omega)) _) | (refine Below.drew ?_) | (refine Below.drewN ?_ _) | (refine Below.next (by assumption) ?_ (by first | omega | (simp; done) | (simp; omega))))))) (Mem.below (Mem.of_own hw9_0b) (by (repeat (first | exact Below.refl _ _ | assumption | (refine Below.alloc ?_ (by first | omega | (simp; done) | (simp; omega)) _) | (refine Below.setCell ?_ (by first | omega | (simp; done) | (simp; omega)) _) | (refine Below.drew ?_) | (refine Below.drewN ?_ _) | (refine Below.next (by assumption) ?_ (by first | omega | (simp; done) | (simp; omega))))))) (Mem.below (Mem.of_own hw9_0c) (by (repeat (first | exact Below.refl _ _ | assumption | (refine Below.alloc ?_ (by first | omega | (simp; done) | (simp; omega)) _) | (refine Below.setCell ?_ (by first | omega | (simp; done) | (simp; omega)) _) | (refine Below.drew ?_) | (refine Below.drewN ?_ _) | (refine Below.next (by assumption) ?_ (by first | omega | (simp; done) | (simp; omega))))))) u0a u0b u0c).mono ?_); rintro e w10 ⟨rfl, hq10⟩; have hz10 := hq10.size; (try simp at hz10); have hS10 := keepN8 hq10 (by assumption)))
  obtain ⟨f0_0_10, f0_1_10, f0_2_10, f0_3_10, f1_0_10, f1_1_10, f1_2_10, f1_3_10⟩ := hS10
  clear f0_0_8 f0_1_8 f0_2_8 f0_3_8 f1_0_8 f1_1_8 f1_2_8 f1_3_8 hS9
  have g0_10 : w.heap.size < w10.heap.size := World.block_lt_of_cell? _ _ f0_0_10
  have g1_10 : w5.heap.size < w10.heap.size := World.block_lt_of_cell? _ _ f1_0_10
  clear g0_8 g1_8
  go_wp2_with fail
  refine (toIntS_any _ _ _ _ (m1.below (by (repeat (first | exact Below.refl _ _ | assumption | (refine Below.alloc ?_ (by first | omega | (simp; done) | (simp; omega)) _) | (refine Below.setCell ?_ (by first | omega | (simp; done) | (simp; omega)) _) | (refine Below.drew ?_) | (refine Below.drewN ?_ _) | (refine Below.next (by assumption) ?_ (by first | omega | (simp; done) | (simp; omega))))))) (by omega)).mono ?_
  rintro e w11 ⟨Ar11_0, cr11_0, rfl, ho11_0, hq11⟩
  have f0_0_11 : w11.cell? ⟨w.heap.size, 0, none⟩ = some (.slice A0a L0a.length c0a) := keep1 hq11 (by first | exact f0_0_10 | exact keepA f0_0_10 | exact keepA (keepA f0_0_10) | exact keepA (keepA (keepA f0_0_10)))
  have f0_1_11 : w11.cell? ⟨w.heap.size, 1, none⟩ = some (.slice A0b L0b.length c0b) := keep1 hq11 (by first | exact f0_1_10 | exact keepA f0_1_10 | exact keepA (keepA f0_1_10) | exact keepA (keepA (keepA f0_1_10)))
  have f0_2_11 : w11.cell? ⟨w.heap.size, 2, none⟩ = some (.int .i64 N0) := keep1 hq11 (by first | exact f0_2_10 | exact keepA f0_2_10 | exact keepA (keepA f0_2_10) | exact keepA (keepA (keepA f0_2_10)))
  have f0_3_11 : w11.cell? ⟨w.heap.size, 3, none⟩ = some (.slice A0c L0c.length c0c) := keep1 hq11 (by first | exact f0_3_10 | exact keepA f0_3_10 | exact keepA (keepA f0_3_10) | exact keepA (keepA (keepA f0_3_10)))
  have f1_0_11 : w11.cell? ⟨w5.heap.size, 0, none⟩ = some (.slice Ar5_0a L0a.length cr5_0a) := keep1 hq11 (by first | exact f1_0_10 | exact keepA f1_0_10 | exact keepA (keepA f1_0_10) | exact keepA (keepA (keepA f1_0_10)))
  have f1_1_11 : w11.cell? ⟨w5.heap.size, 1, none⟩ = some (.slice Ar5_0b L0b.length cr5_0b) := keep1 hq11 (by first | exact f1_1_10 | exact keepA f1_1_10 | exact keepA (keepA f1_1_10) | exact keepA (keepA (keepA f1_1_10)))
  have f1_2_11 : w11.cell? ⟨w5.heap.size, 2, none⟩ = some (.int .i64 N0) := keep1 hq11 (by first | exact f1_2_10 | exact keepA f1_2_10 | exact keepA (keepA f1_2_10) | exact keepA (keepA (keepA f1_2_10)))
  have f1_3_11 : w11.cell? ⟨w5.heap.size, 3, none⟩ = some (.slice Ar5_0c L0c.length cr5_0c) := keep1 hq11 (by first | exact f1_3_10 | exact keepA f1_3_10 | exact keepA (keepA f1_3_10) | exact keepA (keepA (keepA f1_3_10)))
  have g0_11 : w.heap.size < w11.heap.size := World.block_lt_of_cell? _ _ f0_0_11
  have g1_11 : w5.heap.size < w11.heap.size := World.block_lt_of_cell? _ _ f1_0_11
  clear f0_0_10 f0_1_10 f0_2_10 f0_3_10 f1_0_10 f1_1_10 f1_2_10 f1_3_10 g0_10 g1_10
  have hz11 := hq11.size
  (try simp at hz11)
  go_wp2_with fail
  refine (eqIntS_any _ _ _ _ _ _ _ (Mem.below (Mem.of_own ho6_0) (by (repeat (first | exact Below.refl _ _ | assumption | (refine Below.alloc ?_ (by first | omega | (simp; done) | (simp; omega)) _) | (refine Below.setCell ?_ (by first | omega | (simp; done) | (simp; omega)) _) | (refine Below.drew ?_) | (refine Below.drewN ?_ _) | (refine Below.next (by assumption) ?_ (by first | omega | (simp; done) | (simp; omega))))))) (Mem.below (Mem.of_own ho11_0) (by (repeat (first | exact Below.refl _ _ | assumption | (refine Below.alloc ?_ (by first | omega | (simp; done) | (simp; omega)) _) | (refine Below.setCell ?_ (by first | omega | (simp; done) | (simp; omega)) _) | (refine Below.drew ?_) | (refine Below.drewN ?_ _) | (refine Below.next (by assumption) ?_ (by first | omega | (simp; done) | (simp; omega))))))) (by omega) (by omega)).mono ?_
  rintro e w12 ⟨rfl, hq12⟩
  have f0_0_12 : w12.cell? ⟨w.heap.size, 0, none⟩ = some (.slice A0a L0a.length c0a) := keep1 hq12 (by first | exact f0_0_11 | exact keepA f0_0_11 | exact keepA (keepA f0_0_11) | exact keepA (keepA (keepA f0_0_11)))
  have f0_1_12 : w12.cell? ⟨w.heap.size, 1, none⟩ = some (.slice A0b L0b.length c0b) := keep1 hq12 (by first | exact f0_1_11 | exact keepA f0_1_11 | exact keepA (keepA f0_1_11) | exact keepA (keepA (keepA f0_1_11)))
  have f0_2_12 : w12.cell? ⟨w.heap.size, 2, none⟩ = some (.int .i64 N0) := keep1 hq12 (by first | exact f0_2_11 | exact keepA f0_2_11 | exact keepA (keepA f0_2_11) | exact keepA (keepA (keepA f0_2_11)))
  have f0_3_12 : w12.cell? ⟨w.heap.size, 3, none⟩ = some (.slice A0c L0c.length c0c) := keep1 hq12 (by first | exact f0_3_11 | exact keepA f0_3_11 | exact keepA (keepA f0_3_11) | exact keepA (keepA (keepA f0_3_11)))
  have f1_0_12 : w12.cell? ⟨w5.heap.size, 0, none⟩ = some (.slice Ar5_0a L0a.length cr5_0a) := keep1 hq12 (by first | exact f1_0_11 | exact keepA f1_0_11 | exact keepA (keepA f1_0_11) | exact keepA (keepA (keepA f1_0_11)))
  have f1_1_12 : w12.cell? ⟨w5.heap.size, 1, none⟩ = some (.slice Ar5_0b L0b.length cr5_0b) := keep1 hq12 (by first | exact f1_1_11 | exact keepA f1_1_11 | exact keepA (keepA f1_1_11) | exact keepA (keepA (keepA f1_1_11)))
  have f1_2_12 : w12.cell? ⟨w5.heap.size, 2, none⟩ = some (.int .i64 N0) := keep1 hq12 (by first | exact f1_2_11 | exact keepA f1_2_11 | exact keepA (keepA f1_2_11) | exact keepA (keepA (keepA f1_2_11)))
  have f1_3_12 : w12.cell? ⟨w5.heap.size, 3, none⟩ = some (.slice Ar5_0c L0c.length cr5_0c) := keep1 hq12 (by first | exact f1_3_11 | exact keepA f1_3_11 | exact keepA (keepA f1_3_11) | exact keepA (keepA (keepA f1_3_11)))
  have g0_12 : w.heap.size < w12.heap.size := World.block_lt_of_cell? _ _ f0_0_12
  have g1_12 : w5.heap.size < w12.heap.size := World.block_lt_of_cell? _ _ f1_0_12
  clear f0_0_11 f0_1_11 f0_2_11 f0_3_11 f1_0_11 f1_1_11 f1_2_11 f1_3_11 g0_11 g1_11
  have hz12 := hq12.size
  (try simp at hz12)
  go_wp2_with fail
  have hp5_0a := own_below (w' := w12) hw5_0a (by (repeat (first | exact Below.refl _ _ | assumption | (refine Below.alloc ?_ (by first | omega | (simp; done) | (simp; omega)) _) | (refine Below.setCell ?_ (by first | omega | (simp; done) | (simp; omega)) _) | (refine Below.drew ?_) | (refine Below.drewN ?_ _) | (refine Below.next (by assumption) ?_ (by first | omega | (simp; done) | (simp; omega))))))
  have hp5_0b := own_below (w' := w12) hw5_0b (by (repeat (first | exact Below.refl _ _ | assumption | (refine Below.alloc ?_ (by first | omega | (simp; done) | (simp; omega)) _) | (refine Below.setCell ?_ (by first | omega | (simp; done) | (simp; omega)) _) | (refine Below.drew ?_) | (refine Below.drewN ?_ _) | (refine Below.next (by assumption) ?_ (by first | omega | (simp; done) | (simp; omega))))))
  have hp5_0c := own_below (w' := w12) hw5_0c (by (repeat (first | exact Below.refl _ _ | assumption | (refine Below.alloc ?_ (by first | omega | (simp; done) | (simp; omega)) _) | (refine Below.setCell ?_ (by first | omega | (simp; done) | (simp; omega)) _) | (refine Below.drew ?_) | (refine Below.drewN ?_ _) | (refine Below.next (by assumption) ?_ (by first | omega | (simp; done) | (simp; omega))))))
  have hp4_0 := PR.below (w' := w12) ho4_0 (by (repeat (first | exact Below.refl _ _ | assumption | (refine Below.alloc ?_ (by first | omega | (simp; done) | (simp; omega)) _) | (refine Below.setCell ?_ (by first | omega | (simp; done) | (simp; omega)) _) | (refine Below.drew ?_) | (refine Below.drewN ?_ _) | (refine Below.next (by assumption) ?_ (by first | omega | (simp; done) | (simp; omega))))))
  have hp7_0 := PR.below (w' := w12) ho7_0 (by (repeat (first | exact Below.refl _ _ | assumption | (refine Below.alloc ?_ (by first | omega | (simp; done) | (simp; omega)) _) | (refine Below.setCell ?_ (by first | omega | (simp; done) | (simp; omega)) _) | (refine Below.drew ?_) | (refine Below.drewN ?_ _) | (refine Below.next (by assumption) ?_ (by first | omega | (simp; done) | (simp; omega))))))
  have hp6_0 := own_below (w' := w12) ho6_0 (by (repeat (first | exact Below.refl _ _ | assumption | (refine Below.alloc ?_ (by first | omega | (simp; done) | (simp; omega)) _) | (refine Below.setCell ?_ (by first | omega | (simp; done) | (simp; omega)) _) | (refine Below.drew ?_) | (refine Below.drewN ?_ _) | (refine Below.next (by assumption) ?_ (by first | omega | (simp; done) | (simp; omega))))))
  obtain ⟨hsa5_0, hsb5_0, hsc5_0⟩ := hs5_0
  refine (markTransition_any _ _ L0a _ _ L0b N0 _ _ L0c _ _ _ _ _ 1 _ hp5_0a hp5_0b hp5_0c ho5_0a ho5_0b ho5_0c (by omega) (by omega) (by (try simp); omega) u0a u0b u0c (by omega) (by omega)).mono ?_
  rintro e w15 ⟨w13, w14, rfl, hm13, hg13, hm14, hg14, hm15, hg15⟩
  have hk5_0b_13 := own_kept hp5_0b hg13 (fun k hk j hj => by have a1 := ho5_0a.lt k hk; have a2 := ho5_0b.lt j hj; (try simp at a1); (try simp at a2); omega)
  have hk5_0c_13 := own_kept hp5_0c hg13 (fun k hk j hj => by have a1 := ho5_0a.lt k hk; have a2 := ho5_0c.lt j hj; (try simp at a1); (try simp at a2); omega)
  have hk4_0_13 := PR.grown hp4_0 hg13 (fun k hk => by have a1 := ho5_0a.lt k hk; (try simp at a1); first | omega | (simp; omega))
  have hk7_0_13 := PR.grown hp7_0 hg13 (fun k hk => by have a1 := ho5_0a.lt k hk; (try simp at a1); first | omega | (simp; omega))
  have hk6_0_13 := own_kept hp6_0 hg13 (fun k hk j hj => by have a1 := ho5_0a.lt k hk; have a2 := ho6_0.lt j hj; (try simp at a1); (try simp at a2); omega)
  have hB13 : Below w.heap.size w w13 := below_grown (by (repeat (first | exact Below.refl _ _ | assumption | (refine Below.alloc ?_ (by first | omega | (simp; done) | (simp; omega)) _) | (refine Below.setCell ?_ (by first | omega | (simp; done) | (simp; omega)) _) | (refine Below.drew ?_) | (refine Below.drewN ?_ _) | (refine Below.next (by assumption) ?_ (by first | omega | (simp; done) | (simp; omega)))))) hg13 (by first | omega | (simp; omega)) (fun k hk => by have a1 := ho5_0a.lt k hk; (try simp at a1); (try dsimp only); omega)
  have f0_0_13 : w13.cell? ⟨w.heap.size, 0, none⟩ = some (.slice A0a L0a.length c0a) := keepG hg13 (by first | exact f0_0_12 | exact keepA f0_0_12 | exact keepA (keepA f0_0_12) | exact keepA (keepA (keepA f0_0_12))) (fun k hk => by have a1 := ho5_0a.lt k hk; (try simp at a1); (try dsimp only); omega)
  have f0_1_13 : w13.cell? ⟨w.heap.size, 1, none⟩ = some (.slice A0b L0b.length c0b) := keepG hg13 (by first | exact f0_1_12 | exact keepA f0_1_12 | exact keepA (keepA f0_1_12) | exact keepA (keepA (keepA f0_1_12))) (fun k hk => by have a1 := ho5_0a.lt k hk; (try simp at a1); (try dsimp only); omega)
  have f0_2_13 : w13.cell? ⟨w.heap.size, 2, none⟩ = some (.int .i64 N0) := keepG hg13 (by first | exact f0_2_12 | exact keepA f0_2_12 | exact keepA (keepA f0_2_12) | exact keepA (keepA (keepA f0_2_12))) (fun k hk => by have a1 := ho5_0a.lt k hk; (try simp at a1); (try dsimp only); omega)
  have f0_3_13 : w13.cell? ⟨w.heap.size, 3, none⟩ = some (.slice A0c L0c.length c0c) := keepG hg13 (by first | exact f0_3_12 | exact keepA f0_3_12 | exact keepA (keepA f0_3_12) | exact keepA (keepA (keepA f0_3_12))) (fun k hk => by have a1 := ho5_0a.lt k hk; (try simp at a1); (try dsimp only); omega)
  have f1_0_13 : w13.cell? ⟨w5.heap.size, 0, none⟩ = some (.slice Ar5_0a L0a.length cr5_0a) := keepG hg13 (by first | exact f1_0_12 | exact keepA f1_0_12 | exact keepA (keepA f1_0_12) | exact keepA (keepA (keepA f1_0_12))) (fun k hk => by have a1 := ho5_0a.lt k hk; (try simp at a1); (try dsimp only); omega)
  have f1_1_13 : w13.cell? ⟨w5.heap.size, 1, none⟩ = some (.slice Ar5_0b L0b.length cr5_0b) := keepG hg13 (by first | exact f1_1_12 | exact keepA f1_1_12 | exact keepA (keepA f1_1_12) | exact keepA (keepA (keepA f1_1_12))) (fun k hk => by have a1 := ho5_0a.lt k hk; (try simp at a1); (try dsimp only); omega)
  have f1_2_13 : w13.cell? ⟨w5.heap.size, 2, none⟩ = some (.int .i64 N0) := keepG hg13 (by first | exact f1_2_12 | exact keepA f1_2_12 | exact keepA (keepA f1_2_12) | exact keepA (keepA (keepA f1_2_12))) (fun k hk => by have a1 := ho5_0a.lt k hk; (try simp at a1); (try dsimp only); omega)
  have f1_3_13 : w13.cell? ⟨w5.heap.size, 3, none⟩ = some (.slice Ar5_0c L0c.length cr5_0c) := keepG hg13 (by first | exact f1_3_12 | exact keepA f1_3_12 | exact keepA (keepA f1_3_12) | exact keepA (keepA (keepA f1_3_12))) (fun k hk => by have a1 := ho5_0a.lt k hk; (try simp at a1); (try dsimp only); omega)
  have g0_13 : w.heap.size < w13.heap.size := World.block_lt_of_cell? _ _ f0_0_13
  have g1_13 : w5.heap.size < w13.heap.size := World.block_lt_of_cell? _ _ f1_0_13
  clear f0_0_12 f0_1_12 f0_2_12 f0_3_12 f1_0_12 f1_1_12 f1_2_12 f1_3_12 g0_12 g1_12
  have hz13 := hg13.size
  (try simp at hz13)
  have hk5_0a_14 := own_kept hm13 hg14 (fun k hk j hj => by have a1 := ho5_0b.lt k hk; have a2 := ho5_0a.lt j hj; (try simp at a1); (try simp at a2); omega)
  have hk5_0c_14 := own_kept hk5_0c_13 hg14 (fun k hk j hj => by have a1 := ho5_0b.lt k hk; have a2 := ho5_0c.lt j hj; (try simp at a1); (try simp at a2); omega)
  have hk4_0_14 := PR.grown hk4_0_13 hg14 (fun k hk => by have a1 := ho5_0b.lt k hk; (try simp at a1); first | omega | (simp; omega))
  have hk7_0_14 := PR.grown hk7_0_13 hg14 (fun k hk => by have a1 := ho5_0b.lt k hk; (try simp at a1); first | omega | (simp; omega))
  have hk6_0_14 := own_kept hk6_0_13 hg14 (fun k hk j hj => by have a1 := ho5_0b.lt k hk; have a2 := ho6_0.lt j hj; (try simp at a1); (try simp at a2); omega)
  have hB14 : Below w.heap.size w w14 := below_grown (by (repeat (first | exact Below.refl _ _ | assumption | (refine Below.alloc ?_ (by first | omega | (simp; done) | (simp; omega)) _) | (refine Below.setCell ?_ (by first | omega | (simp; done) | (simp; omega)) _) | (refine Below.drew ?_) | (refine Below.drewN ?_ _) | (refine Below.next (by assumption) ?_ (by first | omega | (simp; done) | (simp; omega)))))) hg14 (by first | omega | (simp; omega)) (fun k hk => by have a1 := ho5_0b.lt k hk; (try simp at a1); (try dsimp only); omega)
  have f0_0_14 : w14.cell? ⟨w.heap.size, 0, none⟩ = some (.slice A0a L0a.length c0a) := keepG hg14 (by first | exact f0_0_13 | exact keepA f0_0_13 | exact keepA (keepA f0_0_13) | exact keepA (keepA (keepA f0_0_13))) (fun k hk => by have a1 := ho5_0b.lt k hk; (try simp at a1); (try dsimp only); omega)
  have f0_1_14 : w14.cell? ⟨w.heap.size, 1, none⟩ = some (.slice A0b L0b.length c0b) := keepG hg14 (by first | exact f0_1_13 | exact keepA f0_1_13 | exact keepA (keepA f0_1_13) | exact keepA (keepA (keepA f0_1_13))) (fun k hk => by have a1 := ho5_0b.lt k hk; (try simp at a1); (try dsimp only); omega)
  have f0_2_14 : w14.cell? ⟨w.heap.size, 2, none⟩ = some (.int .i64 N0) := keepG hg14 (by first | exact f0_2_13 | exact keepA f0_2_13 | exact keepA (keepA f0_2_13) | exact keepA (keepA (keepA f0_2_13))) (fun k hk => by have a1 := ho5_0b.lt k hk; (try simp at a1); (try dsimp only); omega)
  have f0_3_14 : w14.cell? ⟨w.heap.size, 3, none⟩ = some (.slice A0c L0c.length c0c) := keepG hg14 (by first | exact f0_3_13 | exact keepA f0_3_13 | exact keepA (keepA f0_3_13) | exact keepA (keepA (keepA f0_3_13))) (fun k hk => by have a1 := ho5_0b.lt k hk; (try simp at a1); (try dsimp only); omega)
  have f1_0_14 : w14.cell? ⟨w5.heap.size, 0, none⟩ = some (.slice Ar5_0a L0a.length cr5_0a) := keepG hg14 (by first | exact f1_0_13 | exact keepA f1_0_13 | exact keepA (keepA f1_0_13) | exact keepA (keepA (keepA f1_0_13))) (fun k hk => by have a1 := ho5_0b.lt k hk; (try simp at a1); (try dsimp only); omega)
  have f1_1_14 : w14.cell? ⟨w5.heap.size, 1, none⟩ = some (.slice Ar5_0b L0b.length cr5_0b) := keepG hg14 (by first | exact f1_1_13 | exact keepA f1_1_13 | exact keepA (keepA f1_1_13) | exact keepA (keepA (keepA f1_1_13))) (fun k hk => by have a1 := ho5_0b.lt k hk; (try simp at a1); (try dsimp only); omega)
  have f1_2_14 : w14.cell? ⟨w5.heap.size, 2, none⟩ = some (.int .i64 N0) := keepG hg14 (by first | exact f1_2_13 | exact keepA f1_2_13 | exact keepA (keepA f1_2_13) | exact keepA (keepA (keepA f1_2_13))) (fun k hk => by have a1 := ho5_0b.lt k hk; (try simp at a1); (try dsimp only); omega)
  have f1_3_14 : w14.cell? ⟨w5.heap.size, 3, none⟩ = some (.slice Ar5_0c L0c.length cr5_0c) := keepG hg14 (by first | exact f1_3_13 | exact keepA f1_3_13 | exact keepA (keepA f1_3_13) | exact keepA (keepA (keepA f1_3_13))) (fun k hk => by have a1 := ho5_0b.lt k hk; (try simp at a1); (try dsimp only); omega)
  have g0_14 : w.heap.size < w14.heap.size := World.block_lt_of_cell? _ _ f0_0_14
  have g1_14 : w5.heap.size < w14.heap.size := World.block_lt_of_cell? _ _ f1_0_14
  clear f0_0_13 f0_1_13 f0_2_13 f0_3_13 f1_0_13 f1_1_13 f1_2_13 f1_3_13 g0_13 g1_13
  have hz14 := hg14.size
  (try simp at hz14)
  have hk5_0a_15 := own_kept hk5_0a_14 hg15 (fun k hk j hj => by have a1 := ho5_0c.lt k hk; have a2 := ho5_0a.lt j hj; (try simp at a1); (try simp at a2); omega)
  have hk5_0b_15 := own_kept hm14 hg15 (fun k hk j hj => by have a1 := ho5_0c.lt k hk; have a2 := ho5_0b.lt j hj; (try simp at a1); (try simp at a2); omega)
  have hk4_0_15 := PR.grown hk4_0_14 hg15 (fun k hk => by have a1 := ho5_0c.lt k hk; (try simp at a1); first | omega | (simp; omega))
  have hk7_0_15 := PR.grown hk7_0_14 hg15 (fun k hk => by have a1 := ho5_0c.lt k hk; (try simp at a1); first | omega | (simp; omega))
  have hk6_0_15 := own_kept hk6_0_14 hg15 (fun k hk j hj => by have a1 := ho5_0c.lt k hk; have a2 := ho6_0.lt j hj; (try simp at a1); (try simp at a2); omega)
  have hB15 : Below w.heap.size w w15 := below_grown (by (repeat (first | exact Below.refl _ _ | assumption | (refine Below.alloc ?_ (by first | omega | (simp; done) | (simp; omega)) _) | (refine Below.setCell ?_ (by first | omega | (simp; done) | (simp; omega)) _) | (refine Below.drew ?_) | (refine Below.drewN ?_ _) | (refine Below.next (by assumption) ?_ (by first | omega | (simp; done) | (simp; omega)))))) hg15 (by first | omega | (simp; omega)) (fun k hk => by have a1 := ho5_0c.lt k hk; (try simp at a1); (try dsimp only); omega)
  have f0_0_15 : w15.cell? ⟨w.heap.size, 0, none⟩ = some (.slice A0a L0a.length c0a) := keepG hg15 (by first | exact f0_0_14 | exact keepA f0_0_14 | exact keepA (keepA f0_0_14) | exact keepA (keepA (keepA f0_0_14))) (fun k hk => by have a1 := ho5_0c.lt k hk; (try simp at a1); (try dsimp only); omega)
  have f0_1_15 : w15.cell? ⟨w.heap.size, 1, none⟩ = some (.slice A0b L0b.length c0b) := keepG hg15 (by first | exact f0_1_14 | exact keepA f0_1_14 | exact keepA (keepA f0_1_14) | exact keepA (keepA (keepA f0_1_14))) (fun k hk => by have a1 := ho5_0c.lt k hk; (try simp at a1); (try dsimp only); omega)
  have f0_2_15 : w15.cell? ⟨w.heap.size, 2, none⟩ = some (.int .i64 N0) := keepG hg15 (by first | exact f0_2_14 | exact keepA f0_2_14 | exact keepA (keepA f0_2_14) | exact keepA (keepA (keepA f0_2_14))) (fun k hk => by have a1 := ho5_0c.lt k hk; (try simp at a1); (try dsimp only); omega)
  have f0_3_15 : w15.cell? ⟨w.heap.size, 3, none⟩ = some (.slice A0c L0c.length c0c) := keepG hg15 (by first | exact f0_3_14 | exact keepA f0_3_14 | exact keepA (keepA f0_3_14) | exact keepA (keepA (keepA f0_3_14))) (fun k hk => by have a1 := ho5_0c.lt k hk; (try simp at a1); (try dsimp only); omega)
  have f1_0_15 : w15.cell? ⟨w5.heap.size, 0, none⟩ = some (.slice Ar5_0a L0a.length cr5_0a) := keepG hg15 (by first | exact f1_0_14 | exact keepA f1_0_14 | exact keepA (keepA f1_0_14) | exact keepA (keepA (keepA f1_0_14))) (fun k hk => by have a1 := ho5_0c.lt k hk; (try simp at a1); (try dsimp only); omega)
  have f1_1_15 : w15.cell? ⟨w5.heap.size, 1, none⟩ = some (.slice Ar5_0b L0b.length cr5_0b) := keepG hg15 (by first | exact f1_1_14 | exact keepA f1_1_14 | exact keepA (keepA f1_1_14) | exact keepA (keepA (keepA f1_1_14))) (fun k hk => by have a1 := ho5_0c.lt k hk; (try simp at a1); (try dsimp only); omega)
  have f1_2_15 : w15.cell? ⟨w5.heap.size, 2, none⟩ = some (.int .i64 N0) := keepG hg15 (by first | exact f1_2_14 | exact keepA f1_2_14 | exact keepA (keepA f1_2_14) | exact keepA (keepA (keepA f1_2_14))) (fun k hk => by have a1 := ho5_0c.lt k hk; (try simp at a1); (try dsimp only); omega)
  have f1_3_15 : w15.cell? ⟨w5.heap.size, 3, none⟩ = some (.slice Ar5_0c L0c.length cr5_0c) := keepG hg15 (by first | exact f1_3_14 | exact keepA f1_3_14 | exact keepA (keepA f1_3_14) | exact keepA (keepA (keepA f1_3_14))) (fun k hk => by have a1 := ho5_0c.lt k hk; (try simp at a1); (try dsimp only); omega)
  have g0_15 : w.heap.size < w15.heap.size := World.block_lt_of_cell? _ _ f0_0_15
  have g1_15 : w5.heap.size < w15.heap.size := World.block_lt_of_cell? _ _ f1_0_15
  clear f0_0_14 f0_1_14 f0_2_14 f0_3_14 f1_0_14 f1_1_14 f1_2_14 f1_3_14 g0_14 g1_14
  have hz15 := hg15.size
  (try simp at hz15)
  go_wp2_with fail
  have hp6_0 := own_below (w' := w15) hk6_0_15 (by (repeat (first | exact Below.refl _ _ | assumption | (refine Below.alloc ?_ (by first | omega | (simp; done) | (simp; omega)) _) | (refine Below.setCell ?_ (by first | omega | (simp; done) | (simp; omega)) _) | (refine Below.drew ?_) | (refine Below.drewN ?_ _) | (refine Below.next (by assumption) ?_ (by first | omega | (simp; done) | (simp; omega))))))
  have hp4_0 := PR.below (w' := w15) hk4_0_15 (by (repeat (first | exact Below.refl _ _ | assumption | (refine Below.alloc ?_ (by first | omega | (simp; done) | (simp; omega)) _) | (refine Below.setCell ?_ (by first | omega | (simp; done) | (simp; omega)) _) | (refine Below.drew ?_) | (refine Below.drewN ?_ _) | (refine Below.next (by assumption) ?_ (by first | omega | (simp; done) | (simp; omega))))))
  have hp7_0 := PR.below (w' := w15) hk7_0_15 (by (repeat (first | exact Below.refl _ _ | assumption | (refine Below.alloc ?_ (by first | omega | (simp; done) | (simp; omega)) _) | (refine Below.setCell ?_ (by first | omega | (simp; done) | (simp; omega)) _) | (refine Below.drew ?_) | (refine Below.drewN ?_ _) | (refine Below.next (by assumption) ?_ (by first | omega | (simp; done) | (simp; omega))))))
  refine (markIntS_any _ _ _ L1 _ _ hp6_0 (by first | omega | exact hV0) (by omega) (by omega)).mono ?_
  rintro e w16 ⟨rfl, hm16, hg16⟩
  have hk4_0_16 := PR.grown hp4_0 hg16 (fun k hk => by have a1 := ho6_0.lt k hk; (try simp at a1); first | omega | (simp; omega))
  have hk7_0_16 := PR.grown hp7_0 hg16 (fun k hk => by have a1 := ho6_0.lt k hk; (try simp at a1); first | omega | (simp; omega))
  have hB16 : Below w.heap.size w w16 := below_grown (by (repeat (first | exact Below.refl _ _ | assumption | (refine Below.alloc ?_ (by first | omega | (simp; done) | (simp; omega)) _) | (refine Below.setCell ?_ (by first | omega | (simp; done) | (simp; omega)) _) | (refine Below.drew ?_) | (refine Below.drewN ?_ _) | (refine Below.next (by assumption) ?_ (by first | omega | (simp; done) | (simp; omega)))))) hg16 (by first | omega | (simp; omega)) (fun k hk => by have a1 := ho6_0.lt k hk; (try simp at a1); (try dsimp only); omega)
  have f0_0_16 : w16.cell? ⟨w.heap.size, 0, none⟩ = some (.slice A0a L0a.length c0a) := keepG hg16 (by first | exact f0_0_15 | exact keepA f0_0_15 | exact keepA (keepA f0_0_15) | exact keepA (keepA (keepA f0_0_15))) (fun k hk => by have a1 := ho6_0.lt k hk; (try simp at a1); (try dsimp only); omega)
  have f0_1_16 : w16.cell? ⟨w.heap.size, 1, none⟩ = some (.slice A0b L0b.length c0b) := keepG hg16 (by first | exact f0_1_15 | exact keepA f0_1_15 | exact keepA (keepA f0_1_15) | exact keepA (keepA (keepA f0_1_15))) (fun k hk => by have a1 := ho6_0.lt k hk; (try simp at a1); (try dsimp only); omega)
  have f0_2_16 : w16.cell? ⟨w.heap.size, 2, none⟩ = some (.int .i64 N0) := keepG hg16 (by first | exact f0_2_15 | exact keepA f0_2_15 | exact keepA (keepA f0_2_15) | exact keepA (keepA (keepA f0_2_15))) (fun k hk => by have a1 := ho6_0.lt k hk; (try simp at a1); (try dsimp only); omega)
  have f0_3_16 : w16.cell? ⟨w.heap.size, 3, none⟩ = some (.slice A0c L0c.length c0c) := keepG hg16 (by first | exact f0_3_15 | exact keepA f0_3_15 | exact keepA (keepA f0_3_15) | exact keepA (keepA (keepA f0_3_15))) (fun k hk => by have a1 := ho6_0.lt k hk; (try simp at a1); (try dsimp only); omega)
  have f1_0_16 : w16.cell? ⟨w5.heap.size, 0, none⟩ = some (.slice Ar5_0a L0a.length cr5_0a) := keepG hg16 (by first | exact f1_0_15 | exact keepA f1_0_15 | exact keepA (keepA f1_0_15) | exact keepA (keepA (keepA f1_0_15))) (fun k hk => by have a1 := ho6_0.lt k hk; (try simp at a1); (try dsimp only); omega)
  have f1_1_16 : w16.cell? ⟨w5.heap.size, 1, none⟩ = some (.slice Ar5_0b L0b.length cr5_0b) := keepG hg16 (by first | exact f1_1_15 | exact keepA f1_1_15 | exact keepA (keepA f1_1_15) | exact keepA (keepA (keepA f1_1_15))) (fun k hk => by have a1 := ho6_0.lt k hk; (try simp at a1); (try dsimp only); omega)
  have f1_2_16 : w16.cell? ⟨w5.heap.size, 2, none⟩ = some (.int .i64 N0) := keepG hg16 (by first | exact f1_2_15 | exact keepA f1_2_15 | exact keepA (keepA f1_2_15) | exact keepA (keepA (keepA f1_2_15))) (fun k hk => by have a1 := ho6_0.lt k hk; (try simp at a1); (try dsimp only); omega)
  have f1_3_16 : w16.cell? ⟨w5.heap.size, 3, none⟩ = some (.slice Ar5_0c L0c.length cr5_0c) := keepG hg16 (by first | exact f1_3_15 | exact keepA f1_3_15 | exact keepA (keepA f1_3_15) | exact keepA (keepA (keepA f1_3_15))) (fun k hk => by have a1 := ho6_0.lt k hk; (try simp at a1); (try dsimp only); omega)
  have g0_16 : w.heap.size < w16.heap.size := World.block_lt_of_cell? _ _ f0_0_16
  have g1_16 : w5.heap.size < w16.heap.size := World.block_lt_of_cell? _ _ f1_0_16
  clear f0_0_15 f0_1_15 f0_2_15 f0_3_15 f1_0_15 f1_1_15 f1_2_15 f1_3_15 g0_15 g1_15
  have hz16 := hg16.size
  (try simp at hz16)
  clear hp6_0 hp4_0 hp7_0
  go_wp2_with fail
  refine (eqIntSS_same _ _ _ _ _ _ _ _ (cpV L0a L0b N0 L0c L1 a2) _ (PR.below hk7_0_16 (by (repeat (first | exact Below.refl _ _ | assumption | (refine Below.alloc ?_ (by first | omega | (simp; done) | (simp; omega)) _) | (refine Below.setCell ?_ (by first | omega | (simp; done) | (simp; omega)) _) | (refine Below.drew ?_) | (refine Below.drewN ?_ _) | (refine Below.next (by assumption) ?_ (by first | omega | (simp; done) | (simp; omega))))))) (PR.below hk4_0_16 (by (repeat (first | exact Below.refl _ _ | assumption | (refine Below.alloc ?_ (by first | omega | (simp; done) | (simp; omega)) _) | (refine Below.setCell ?_ (by first | omega | (simp; done) | (simp; omega)) _) | (refine Below.drew ?_) | (refine Below.drewN ?_ _) | (refine Below.next (by assumption) ?_ (by first | omega | (simp; done) | (simp; omega))))))) (by first | omega | exact hV0)).mono ?_
  rintro e w17 ⟨rfl, hq17⟩
  have f0_0_17 : w17.cell? ⟨w.heap.size, 0, none⟩ = some (.slice A0a L0a.length c0a) := keep1 hq17 (by first | exact f0_0_16 | exact keepA f0_0_16 | exact keepA (keepA f0_0_16) | exact keepA (keepA (keepA f0_0_16)))
  have f0_1_17 : w17.cell? ⟨w.heap.size, 1, none⟩ = some (.slice A0b L0b.length c0b) := keep1 hq17 (by first | exact f0_1_16 | exact keepA f0_1_16 | exact keepA (keepA f0_1_16) | exact keepA (keepA (keepA f0_1_16)))
  have f0_2_17 : w17.cell? ⟨w.heap.size, 2, none⟩ = some (.int .i64 N0) := keep1 hq17 (by first | exact f0_2_16 | exact keepA f0_2_16 | exact keepA (keepA f0_2_16) | exact keepA (keepA (keepA f0_2_16)))
  have f0_3_17 : w17.cell? ⟨w.heap.size, 3, none⟩ = some (.slice A0c L0c.length c0c) := keep1 hq17 (by first | exact f0_3_16 | exact keepA f0_3_16 | exact keepA (keepA f0_3_16) | exact keepA (keepA (keepA f0_3_16)))
  have f1_0_17 : w17.cell? ⟨w5.heap.size, 0, none⟩ = some (.slice Ar5_0a L0a.length cr5_0a) := keep1 hq17 (by first | exact f1_0_16 | exact keepA f1_0_16 | exact keepA (keepA f1_0_16) | exact keepA (keepA (keepA f1_0_16)))
  have f1_1_17 : w17.cell? ⟨w5.heap.size, 1, none⟩ = some (.slice Ar5_0b L0b.length cr5_0b) := keep1 hq17 (by first | exact f1_1_16 | exact keepA f1_1_16 | exact keepA (keepA f1_1_16) | exact keepA (keepA (keepA f1_1_16)))
  have f1_2_17 : w17.cell? ⟨w5.heap.size, 2, none⟩ = some (.int .i64 N0) := keep1 hq17 (by first | exact f1_2_16 | exact keepA f1_2_16 | exact keepA (keepA f1_2_16) | exact keepA (keepA (keepA f1_2_16)))
  have f1_3_17 : w17.cell? ⟨w5.heap.size, 3, none⟩ = some (.slice Ar5_0c L0c.length cr5_0c) := keep1 hq17 (by first | exact f1_3_16 | exact keepA f1_3_16 | exact keepA (keepA f1_3_16) | exact keepA (keepA (keepA f1_3_16)))
  have g0_17 : w.heap.size < w17.heap.size := World.block_lt_of_cell? _ _ f0_0_17
  have g1_17 : w5.heap.size < w17.heap.size := World.block_lt_of_cell? _ _ f1_0_17
  clear f0_0_16 f0_1_16 f0_2_16 f0_3_16 f1_0_16 f1_1_16 f1_2_16 f1_3_16 g0_16 g1_16
  have hz17 := hq17.size
  (try simp at hz17)
  go_wp2_with fail
  have hp7_0 := PR.below (w' := w17) hk7_0_16 (by (repeat (first | exact Below.refl _ _ | assumption | (refine Below.alloc ?_ (by first | omega | (simp; done) | (simp; omega)) _) | (refine Below.setCell ?_ (by first | omega | (simp; done) | (simp; omega)) _) | (refine Below.drew ?_) | (refine Below.drewN ?_ _) | (refine Below.next (by assumption) ?_ (by first | omega | (simp; done) | (simp; omega))))))
  have hp4_0 := PR.below (w' := w17) hk4_0_16 (by (repeat (first | exact Below.refl _ _ | assumption | (refine Below.alloc ?_ (by first | omega | (simp; done) | (simp; omega)) _) | (refine Below.setCell ?_ (by first | omega | (simp; done) | (simp; omega)) _) | (refine Below.drew ?_) | (refine Below.drewN ?_ _) | (refine Below.next (by assumption) ?_ (by first | omega | (simp; done) | (simp; omega))))))
  refine (markIntSS_any _ _ _ _ (cpV L0a L0b N0 L0c L1 a2) 1 _ hp7_0 (by first | omega | exact hV0) (by omega) (by omega)).mono ?_
  rintro e w18 ⟨rfl, hm18, hg18⟩
  have hk4_0_18 := PR.belowB hp4_0 hg18 (by first | omega | (simp; omega))
  have hB18 : Below w.heap.size w w18 := Below.trans (a := w) (b := w17) (by (repeat (first | exact Below.refl _ _ | assumption | (refine Below.alloc ?_ (by first | omega | (simp; done) | (simp; omega)) _) | (refine Below.setCell ?_ (by first | omega | (simp; done) | (simp; omega)) _) | (refine Below.drew ?_) | (refine Below.drewN ?_ _) | (refine Below.next (by assumption) ?_ (by first | omega | (simp; done) | (simp; omega)))))) (hg18.mono (by first | omega | (simp; omega)))
  have f0_0_18 : w18.cell? ⟨w.heap.size, 0, none⟩ = some (.slice A0a L0a.length c0a) := (hg18.cell (by (try dsimp only); first | omega | (simp; omega))).trans (by first | exact f0_0_17 | exact keepA f0_0_17 | exact keepA (keepA f0_0_17) | exact keepA (keepA (keepA f0_0_17)))
  have f0_1_18 : w18.cell? ⟨w.heap.size, 1, none⟩ = some (.slice A0b L0b.length c0b) := (hg18.cell (by (try dsimp only); first | omega | (simp; omega))).trans (by first | exact f0_1_17 | exact keepA f0_1_17 | exact keepA (keepA f0_1_17) | exact keepA (keepA (keepA f0_1_17)))
  have f0_2_18 : w18.cell? ⟨w.heap.size, 2, none⟩ = some (.int .i64 N0) := (hg18.cell (by (try dsimp only); first | omega | (simp; omega))).trans (by first | exact f0_2_17 | exact keepA f0_2_17 | exact keepA (keepA f0_2_17) | exact keepA (keepA (keepA f0_2_17)))
  have f0_3_18 : w18.cell? ⟨w.heap.size, 3, none⟩ = some (.slice A0c L0c.length c0c) := (hg18.cell (by (try dsimp only); first | omega | (simp; omega))).trans (by first | exact f0_3_17 | exact keepA f0_3_17 | exact keepA (keepA f0_3_17) | exact keepA (keepA (keepA f0_3_17)))
  have f1_0_18 : w18.cell? ⟨w5.heap.size, 0, none⟩ = some (.slice Ar5_0a L0a.length cr5_0a) := (hg18.cell (by (try dsimp only); first | omega | (simp; omega))).trans (by first | exact f1_0_17 | exact keepA f1_0_17 | exact keepA (keepA f1_0_17) | exact keepA (keepA (keepA f1_0_17)))
  have f1_1_18 : w18.cell? ⟨w5.heap.size, 1, none⟩ = some (.slice Ar5_0b L0b.length cr5_0b) := (hg18.cell (by (try dsimp only); first | omega | (simp; omega))).trans (by first | exact f1_1_17 | exact keepA f1_1_17 | exact keepA (keepA f1_1_17) | exact keepA (keepA (keepA f1_1_17)))
  have f1_2_18 : w18.cell? ⟨w5.heap.size, 2, none⟩ = some (.int .i64 N0) := (hg18.cell (by (try dsimp only); first | omega | (simp; omega))).trans (by first | exact f1_2_17 | exact keepA f1_2_17 | exact keepA (keepA f1_2_17) | exact keepA (keepA (keepA f1_2_17)))
  have f1_3_18 : w18.cell? ⟨w5.heap.size, 3, none⟩ = some (.slice Ar5_0c L0c.length cr5_0c) := (hg18.cell (by (try dsimp only); first | omega | (simp; omega))).trans (by first | exact f1_3_17 | exact keepA f1_3_17 | exact keepA (keepA f1_3_17) | exact keepA (keepA (keepA f1_3_17)))
  have g0_18 : w.heap.size < w18.heap.size := World.block_lt_of_cell? _ _ f0_0_18
  have g1_18 : w5.heap.size < w18.heap.size := World.block_lt_of_cell? _ _ f1_0_18
  clear f0_0_17 f0_1_17 f0_2_17 f0_3_17 f1_0_17 f1_1_17 f1_2_17 f1_3_17 g0_17 g1_17
  have hz18 := hg18.size
  (try simp at hz18)
  clear hp7_0 hp4_0
  go_wp2_with fail
  refine (heldIntSS_any _ _ _ _ 1 _ (MkOk.below hm18 (by (repeat (first | exact Below.refl _ _ | assumption | (refine Below.alloc ?_ (by first | omega | (simp; done) | (simp; omega)) _) | (refine Below.setCell ?_ (by first | omega | (simp; done) | (simp; omega)) _) | (refine Below.drew ?_) | (refine Below.drewN ?_ _) | (refine Below.next (by assumption) ?_ (by first | omega | (simp; done) | (simp; omega))))))) (by first | omega | exact hV0) (by omega) (by omega)).mono ?_
  rintro e w' ⟨rfl, rfl⟩
  go_wp2_with fail
  refine (toTransition_any _ _ L0a _ _ L0b N0 _ _ L0c _ (m0a.below (by (repeat (first | exact Below.refl _ _ | assumption | (refine Below.alloc ?_ (by first | omega | (simp; done) | (simp; omega)) _) | (refine Below.setCell ?_ (by first | omega | (simp; done) | (simp; omega)) _) | (refine Below.drew ?_) | (refine Below.drewN ?_ _) | (refine Below.next (by assumption) ?_ (by first | omega | (simp; done) | (simp; omega))))))) (m0b.below (by (repeat (first | exact Below.refl _ _ | assumption | (refine Below.alloc ?_ (by first | omega | (simp; done) | (simp; omega)) _) | (refine Below.setCell ?_ (by first | omega | (simp; done) | (simp; omega)) _) | (refine Below.drew ?_) | (refine Below.drewN ?_ _) | (refine Below.next (by assumption) ?_ (by first | omega | (simp; done) | (simp; omega))))))) (m0c.below (by (repeat (first | exact Below.refl _ _ | assumption | (refine Below.alloc ?_ (by first | omega | (simp; done) | (simp; omega)) _) | (refine Below.setCell ?_ (by first | omega | (simp; done) | (simp; omega)) _) | (refine Below.drew ?_) | (refine Below.drewN ?_ _) | (refine Below.next (by assumption) ?_ (by first | omega | (simp; done) | (simp; omega))))))) u0a u0b u0c).mono ?_
  rintro e w19 ⟨Ar19_0a, cr19_0a, Ar19_0b, cr19_0b, Ar19_0c, cr19_0c, sa19_0, sb19_0, rfl, hw19_0a, hw19_0b, hw19_0c, ho19_0a, ho19_0b, ho19_0c, hs19_0, hq19⟩
  have f0_0_19 : w19.cell? ⟨w.heap.size, 0, none⟩ = some (.slice A0a L0a.length c0a) := keep1 hq19 (by first | exact f0_0_18 | exact keepA f0_0_18 | exact keepA (keepA f0_0_18) | exact keepA (keepA (keepA f0_0_18)))
  have f0_1_19 : w19.cell? ⟨w.heap.size, 1, none⟩ = some (.slice A0b L0b.length c0b) := keep1 hq19 (by first | exact f0_1_18 | exact keepA f0_1_18 | exact keepA (keepA f0_1_18) | exact keepA (keepA (keepA f0_1_18)))
  have f0_2_19 : w19.cell? ⟨w.heap.size, 2, none⟩ = some (.int .i64 N0) := keep1 hq19 (by first | exact f0_2_18 | exact keepA f0_2_18 | exact keepA (keepA f0_2_18) | exact keepA (keepA (keepA f0_2_18)))
  have f0_3_19 : w19.cell? ⟨w.heap.size, 3, none⟩ = some (.slice A0c L0c.length c0c) := keep1 hq19 (by first | exact f0_3_18 | exact keepA f0_3_18 | exact keepA (keepA f0_3_18) | exact keepA (keepA (keepA f0_3_18)))
  have f1_0_19 : w19.cell? ⟨w5.heap.size, 0, none⟩ = some (.slice Ar5_0a L0a.length cr5_0a) := keep1 hq19 (by first | exact f1_0_18 | exact keepA f1_0_18 | exact keepA (keepA f1_0_18) | exact keepA (keepA (keepA f1_0_18)))
  have f1_1_19 : w19.cell? ⟨w5.heap.size, 1, none⟩ = some (.slice Ar5_0b L0b.length cr5_0b) := keep1 hq19 (by first | exact f1_1_18 | exact keepA f1_1_18 | exact keepA (keepA f1_1_18) | exact keepA (keepA (keepA f1_1_18)))
  have f1_2_19 : w19.cell? ⟨w5.heap.size, 2, none⟩ = some (.int .i64 N0) := keep1 hq19 (by first | exact f1_2_18 | exact keepA f1_2_18 | exact keepA (keepA f1_2_18) | exact keepA (keepA (keepA f1_2_18)))
  have f1_3_19 : w19.cell? ⟨w5.heap.size, 3, none⟩ = some (.slice Ar5_0c L0c.length cr5_0c) := keep1 hq19 (by first | exact f1_3_18 | exact keepA f1_3_18 | exact keepA (keepA f1_3_18) | exact keepA (keepA (keepA f1_3_18)))
  have g0_19 : w.heap.size < w19.heap.size := World.block_lt_of_cell? _ _ f0_0_19
  have g1_19 : w5.heap.size < w19.heap.size := World.block_lt_of_cell? _ _ f1_0_19
  clear f0_0_18 f0_1_18 f0_2_18 f0_3_18 f1_0_18 f1_1_18 f1_2_18 f1_3_18 g0_18 g1_18
  have hz19 := hq19.size
  (try simp at hz19)
  go_wp2_with fail
  refine (toIntS_any _ _ _ _ (m1.below (by (repeat (first | exact Below.refl _ _ | assumption | (refine Below.alloc ?_ (by first | omega | (simp; done) | (simp; omega)) _) | (refine Below.setCell ?_ (by first | omega | (simp; done) | (simp; omega)) _) | (refine Below.drew ?_) | (refine Below.drewN ?_ _) | (refine Below.next (by assumption) ?_ (by first | omega | (simp; done) | (simp; omega))))))) (by omega)).mono ?_
  rintro e w20 ⟨Ar20_0, cr20_0, rfl, ho20_0, hq20⟩
  have f0_0_20 : w20.cell? ⟨w.heap.size, 0, none⟩ = some (.slice A0a L0a.length c0a) := keep1 hq20 (by first | exact f0_0_19 | exact keepA f0_0_19 | exact keepA (keepA f0_0_19) | exact keepA (keepA (keepA f0_0_19)))
  have f0_1_20 : w20.cell? ⟨w.heap.size, 1, none⟩ = some (.slice A0b L0b.length c0b) := keep1 hq20 (by first | exact f0_1_19 | exact keepA f0_1_19 | exact keepA (keepA f0_1_19) | exact keepA (keepA (keepA f0_1_19)))
  have f0_2_20 : w20.cell? ⟨w.heap.size, 2, none⟩ = some (.int .i64 N0) := keep1 hq20 (by first | exact f0_2_19 | exact keepA f0_2_19 | exact keepA (keepA f0_2_19) | exact keepA (keepA (keepA f0_2_19)))
  have f0_3_20 : w20.cell? ⟨w.heap.size, 3, none⟩ = some (.slice A0c L0c.length c0c) := keep1 hq20 (by first | exact f0_3_19 | exact keepA f0_3_19 | exact keepA (keepA f0_3_19) | exact keepA (keepA (keepA f0_3_19)))
  have f1_0_20 : w20.cell? ⟨w5.heap.size, 0, none⟩ = some (.slice Ar5_0a L0a.length cr5_0a) := keep1 hq20 (by first | exact f1_0_19 | exact keepA f1_0_19 | exact keepA (keepA f1_0_19) | exact keepA (keepA (keepA f1_0_19)))
  have f1_1_20 : w20.cell? ⟨w5.heap.size, 1, none⟩ = some (.slice Ar5_0b L0b.length cr5_0b) := keep1 hq20 (by first | exact f1_1_19 | exact keepA f1_1_19 | exact keepA (keepA f1_1_19) | exact keepA (keepA (keepA f1_1_19)))
  have f1_2_20 : w20.cell? ⟨w5.heap.size, 2, none⟩ = some (.int .i64 N0) := keep1 hq20 (by first | exact f1_2_19 | exact keepA f1_2_19 | exact keepA (keepA f1_2_19) | exact keepA (keepA (keepA f1_2_19)))
  have f1_3_20 : w20.cell? ⟨w5.heap.size, 3, none⟩ = some (.slice Ar5_0c L0c.length cr5_0c) := keep1 hq20 (by first | exact f1_3_19 | exact keepA f1_3_19 | exact keepA (keepA f1_3_19) | exact keepA (keepA (keepA f1_3_19)))
  have g0_20 : w.heap.size < w20.heap.size := World.block_lt_of_cell? _ _ f0_0_20
  have g1_20 : w5.heap.size < w20.heap.size := World.block_lt_of_cell? _ _ f1_0_20
  clear f0_0_19 f0_1_19 f0_2_19 f0_3_19 f1_0_19 f1_1_19 f1_2_19 f1_3_19 g0_19 g1_19
  have hz20 := hq20.size
  (try simp at hz20)
  go_wp2_with fail
  refine (impl_CloseDelayed_pr _ _ L0a _ _ L0b N0 _ _ L0c _ _ L1 a2 _ (Mem.below (Mem.of_own hw19_0a) (by (repeat (first | exact Below.refl _ _ | assumption | (refine Below.alloc ?_ (by first | omega | (simp; done) | (simp; omega)) _) | (refine Below.setCell ?_ (by first | omega | (simp; done) | (simp; omega)) _) | (refine Below.drew ?_) | (refine Below.drewN ?_ _) | (refine Below.next (by assumption) ?_ (by first | omega | (simp; done) | (simp; omega))))))) (Mem.below (Mem.of_own hw19_0b) (by (repeat (first | exact Below.refl _ _ | assumption | (refine Below.alloc ?_ (by first | omega | (simp; done) | (simp; omega)) _) | (refine Below.setCell ?_ (by first | omega | (simp; done) | (simp; omega)) _) | (refine Below.drew ?_) | (refine Below.drewN ?_ _) | (refine Below.next (by assumption) ?_ (by first | omega | (simp; done) | (simp; omega))))))) (Mem.below (Mem.of_own hw19_0c) (by (repeat (first | exact Below.refl _ _ | assumption | (refine Below.alloc ?_ (by first | omega | (simp; done) | (simp; omega)) _) | (refine Below.setCell ?_ (by first | omega | (simp; done) | (simp; omega)) _) | (refine Below.drew ?_) | (refine Below.drewN ?_ _) | (refine Below.next (by assumption) ?_ (by first | omega | (simp; done) | (simp; omega))))))) u0a u0b u0c (own_cap hw19_0a) (own_cap hw19_0b) (own_cap hw19_0c) (Mem.below (Mem.of_own ho20_0) (by (repeat (first | exact Below.refl _ _ | assumption | (refine Below.alloc ?_ (by first | omega | (simp; done) | (simp; omega)) _) | (refine Below.setCell ?_ (by first | omega | (simp; done) | (simp; omega)) _) | (refine Below.drew ?_) | (refine Below.drewN ?_ _) | (refine Below.next (by assumption) ?_ (by first | omega | (simp; done) | (simp; omega))))))) u1 (own_cap ho20_0)).mono ?_
  rintro e w21 ⟨Ar21_0, cr21_0, rfl, ho21_0, hq21⟩
  have f0_0_21 : w21.cell? ⟨w.heap.size, 0, none⟩ = some (.slice A0a L0a.length c0a) := keep1 hq21 (by first | exact f0_0_20 | exact keepA f0_0_20 | exact keepA (keepA f0_0_20) | exact keepA (keepA (keepA f0_0_20)))
  have f0_1_21 : w21.cell? ⟨w.heap.size, 1, none⟩ = some (.slice A0b L0b.length c0b) := keep1 hq21 (by first | exact f0_1_20 | exact keepA f0_1_20 | exact keepA (keepA f0_1_20) | exact keepA (keepA (keepA f0_1_20)))
  have f0_2_21 : w21.cell? ⟨w.heap.size, 2, none⟩ = some (.int .i64 N0) := keep1 hq21 (by first | exact f0_2_20 | exact keepA f0_2_20 | exact keepA (keepA f0_2_20) | exact keepA (keepA (keepA f0_2_20)))
  have f0_3_21 : w21.cell? ⟨w.heap.size, 3, none⟩ = some (.slice A0c L0c.length c0c) := keep1 hq21 (by first | exact f0_3_20 | exact keepA f0_3_20 | exact keepA (keepA f0_3_20) | exact keepA (keepA (keepA f0_3_20)))
  have f1_0_21 : w21.cell? ⟨w5.heap.size, 0, none⟩ = some (.slice Ar5_0a L0a.length cr5_0a) := keep1 hq21 (by first | exact f1_0_20 | exact keepA f1_0_20 | exact keepA (keepA f1_0_20) | exact keepA (keepA (keepA f1_0_20)))
  have f1_1_21 : w21.cell? ⟨w5.heap.size, 1, none⟩ = some (.slice Ar5_0b L0b.length cr5_0b) := keep1 hq21 (by first | exact f1_1_20 | exact keepA f1_1_20 | exact keepA (keepA f1_1_20) | exact keepA (keepA (keepA f1_1_20)))
  have f1_2_21 : w21.cell? ⟨w5.heap.size, 2, none⟩ = some (.int .i64 N0) := keep1 hq21 (by first | exact f1_2_20 | exact keepA f1_2_20 | exact keepA (keepA f1_2_20) | exact keepA (keepA (keepA f1_2_20)))
  have f1_3_21 : w21.cell? ⟨w5.heap.size, 3, none⟩ = some (.slice Ar5_0c L0c.length cr5_0c) := keep1 hq21 (by first | exact f1_3_20 | exact keepA f1_3_20 | exact keepA (keepA f1_3_20) | exact keepA (keepA (keepA f1_3_20)))
  have g0_21 : w.heap.size < w21.heap.size := World.block_lt_of_cell? _ _ f0_0_21
  have g1_21 : w5.heap.size < w21.heap.size := World.block_lt_of_cell? _ _ f1_0_21
  clear f0_0_20 f0_1_20 f0_2_20 f0_3_20 f1_0_20 f1_1_20 f1_2_20 f1_3_20 g0_20 g1_20
  have hz21 := hq21.size
  (try simp at hz21)
  go_wp2_with fail
  refine (eqIntSS_same _ _ _ _ _ _ _ _ (cpV L0a L0b N0 L0c L1 a2) _ (PR.below ho21_0 (by (repeat (first | exact Below.refl _ _ | assumption | (refine Below.alloc ?_ (by first | omega | (simp; done) | (simp; omega)) _) | (refine Below.setCell ?_ (by first | omega | (simp; done) | (simp; omega)) _) | (refine Below.drew ?_) | (refine Below.drewN ?_ _) | (refine Below.next (by assumption) ?_ (by first | omega | (simp; done) | (simp; omega))))))) (PR.below hk4_0_18 (by (repeat (first | exact Below.refl _ _ | assumption | (refine Below.alloc ?_ (by first | omega | (simp; done) | (simp; omega)) _) | (refine Below.setCell ?_ (by first | omega | (simp; done) | (simp; omega)) _) | (refine Below.drew ?_) | (refine Below.drewN ?_ _) | (refine Below.next (by assumption) ?_ (by first | omega | (simp; done) | (simp; omega))))))) (by first | omega | exact hV0)).mono ?_
  rintro e w22 ⟨rfl, hq22⟩
  have f0_0_22 : w22.cell? ⟨w.heap.size, 0, none⟩ = some (.slice A0a L0a.length c0a) := keep1 hq22 (by first | exact f0_0_21 | exact keepA f0_0_21 | exact keepA (keepA f0_0_21) | exact keepA (keepA (keepA f0_0_21)))
  have f0_1_22 : w22.cell? ⟨w.heap.size, 1, none⟩ = some (.slice A0b L0b.length c0b) := keep1 hq22 (by first | exact f0_1_21 | exact keepA f0_1_21 | exact keepA (keepA f0_1_21) | exact keepA (keepA (keepA f0_1_21)))
  have f0_2_22 : w22.cell? ⟨w.heap.size, 2, none⟩ = some (.int .i64 N0) := keep1 hq22 (by first | exact f0_2_21 | exact keepA f0_2_21 | exact keepA (keepA f0_2_21) | exact keepA (keepA (keepA f0_2_21)))
  have f0_3_22 : w22.cell? ⟨w.heap.size, 3, none⟩ = some (.slice A0c L0c.length c0c) := keep1 hq22 (by first | exact f0_3_21 | exact keepA f0_3_21 | exact keepA (keepA f0_3_21) | exact keepA (keepA (keepA f0_3_21)))
  have f1_0_22 : w22.cell? ⟨w5.heap.size, 0, none⟩ = some (.slice Ar5_0a L0a.length cr5_0a) := keep1 hq22 (by first | exact f1_0_21 | exact keepA f1_0_21 | exact keepA (keepA f1_0_21) | exact keepA (keepA (keepA f1_0_21)))
  have f1_1_22 : w22.cell? ⟨w5.heap.size, 1, none⟩ = some (.slice Ar5_0b L0b.length cr5_0b) := keep1 hq22 (by first | exact f1_1_21 | exact keepA f1_1_21 | exact keepA (keepA f1_1_21) | exact keepA (keepA (keepA f1_1_21)))
  have f1_2_22 : w22.cell? ⟨w5.heap.size, 2, none⟩ = some (.int .i64 N0) := keep1 hq22 (by first | exact f1_2_21 | exact keepA f1_2_21 | exact keepA (keepA f1_2_21) | exact keepA (keepA (keepA f1_2_21)))
  have f1_3_22 : w22.cell? ⟨w5.heap.size, 3, none⟩ = some (.slice Ar5_0c L0c.length cr5_0c) := keep1 hq22 (by first | exact f1_3_21 | exact keepA f1_3_21 | exact keepA (keepA f1_3_21) | exact keepA (keepA (keepA f1_3_21)))
  have g0_22 : w.heap.size < w22.heap.size := World.block_lt_of_cell? _ _ f0_0_22
  have g1_22 : w5.heap.size < w22.heap.size := World.block_lt_of_cell? _ _ f1_0_22
  clear f0_0_21 f0_1_21 f0_2_21 f0_3_21 f1_0_21 f1_1_21 f1_2_21 f1_3_21 g0_21 g1_21
  have hz22 := hq22.size
  (try simp at hz22)
  go_wp2_with fail
  refine (heldIntSS_any _ _ _ _ 1 _ (MkOk.below hm18 (by (repeat (first | exact Below.refl _ _ | assumption | (refine Below.alloc ?_ (by first | omega | (simp; done) | (simp; omega)) _) | (refine Below.setCell ?_ (by first | omega | (simp; done) | (simp; omega)) _) | (refine Below.drew ?_) | (refine Below.drewN ?_ _) | (refine Below.next (by assumption) ?_ (by first | omega | (simp; done) | (simp; omega))))))) (by first | omega | exact hV0) (by omega) (by omega)).mono ?_
  rintro e w' ⟨rfl, rfl⟩
  go_wp2_with fail
  go_ret
  exact ⟨rfl, by (repeat (first | exact Below.refl _ _ | assumption | (refine Below.alloc ?_ (by first | omega | (simp; done) | (simp; omega)) _) | (refine Below.setCell ?_ (by first | omega | (simp; done) | (simp; omega)) _) | (refine Below.drew ?_) | (refine Below.drewN ?_ _) | (refine Below.next (by assumption) ?_ (by first | omega | (simp; done) | (simp; omega)))))⟩
end Go.Proofs.Ytjnkkeaknaoghaa
