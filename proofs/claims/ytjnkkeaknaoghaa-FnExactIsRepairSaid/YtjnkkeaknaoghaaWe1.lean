/-
  Walks of laws: IsRepair.
-/
import Derived.Test.YtjnkkeaknaoghaaCpy
import Derived.Test.YtjnkkeaknaoghaaCpySp
import Derived.Test.YtjnkkeaknaoghaaDek
import Derived.Test.YtjnkkeaknaoghaaTrm
import Derived.Deep.RegionHeld3
namespace Go.Proofs.Ytjnkkeaknaoghaa
open Go.RowKit Go.Sort

theorem keepG {W w' : World} {p : Addr} {v : Value} {row : Option Nat} (hg : W.grownBy w' row) (h : W.cell? p = some v) (hr : ∀ k, row = some k → p.block ≠ k) : w'.cell? p = some v := hg.cell h (fun e => hr p.block e.symm rfl)
theorem keepA {w : World} {o : Obj} {p : Addr} {v : Value} (h : w.cell? p = some v) : (w.alloc o).cell? p = some v := keep1 ((Below.refl _ _).alloc (Nat.le_refl _) o) h
theorem keepN8 {W w' : World} {p0 p1 p2 p3 p4 p5 p6 p7 : Addr} {v0 v1 v2 v3 v4 v5 v6 v7 : Value} (hq : Below W.heap.size W w') (h : W.cell? p0 = some v0 ∧ W.cell? p1 = some v1 ∧ W.cell? p2 = some v2 ∧ W.cell? p3 = some v3 ∧ W.cell? p4 = some v4 ∧ W.cell? p5 = some v5 ∧ W.cell? p6 = some v6 ∧ W.cell? p7 = some v7) : w'.cell? p0 = some v0 ∧ w'.cell? p1 = some v1 ∧ w'.cell? p2 = some v2 ∧ w'.cell? p3 = some v3 ∧ w'.cell? p4 = some v4 ∧ w'.cell? p5 = some v5 ∧ w'.cell? p6 = some v6 ∧ w'.cell? p7 = some v7 :=
  ⟨keep1 hq h.1, keep1 hq h.2.1, keep1 hq h.2.2.1, keep1 hq h.2.2.2.1, keep1 hq h.2.2.2.2.1, keep1 hq h.2.2.2.2.2.1, keep1 hq h.2.2.2.2.2.2.1, keep1 hq h.2.2.2.2.2.2.2⟩
set_option maxRecDepth 100000 in
set_option maxHeartbeats 6400000 in
theorem FnExactIsRepair_walk (A0a : Option Addr) (c0a : Nat) (L0a : List Sp) (A0b : Option Addr) (c0b : Nat) (L0b : List Sp) (N0 : Int) (A0c : Option Addr) (c0c : Nat) (L0c : List Int) (A1 : Option Addr) (c1 : Nat) (L1 : List Int) (a2 : Int) (w : World) (m0a : Mem w A0a (spots L0a)) (l0a : L0a.length ≤ c0a) (n0a : c0a ≤ maxLen) (m0b : Mem w A0b (spots L0b)) (l0b : L0b.length ≤ c0b) (n0b : c0b ≤ maxLen) (m0c : Mem w A0c (ints L0c)) (l0c : L0c.length ≤ c0c) (n0c : c0c ≤ maxLen) (m1 : Mem w A1 (ints L1)) (_ : ∀ a ∈ L1, okInt a) (l1 : L1.length ≤ c1) (n1 : c1 ≤ maxLen) (_ : okInt a2) : Calls Try.prog 6 #[.agg #[.slice A0a L0a.length c0a, .slice A0b L0b.length c0b, .int .i64 N0, .slice A0c L0c.length c0c], .slice A1 L1.length c1, .int .i64 a2] w fun e w' => e = .returned (.bool true) ∧ Below w.heap.size w w' := by
  unfold maxLen at n0a
  unfold maxLen at n0b
  unfold maxLen at n0c
  unfold maxLen at n1
  by_cases t1 : L1.length ≤ 1048576
  case neg =>
    go_enter Try.func6, Try.ntmps6
    go_wp2_with fail
    go_ret
    exact ⟨rfl, by (repeat (first | exact Below.refl _ _ | assumption | (refine Below.alloc ?_ (by first | omega | (simp; done) | (simp; omega)) _) | (refine Below.setCell ?_ (by first | omega | (simp; done) | (simp; omega)) _) | (refine Below.drew ?_) | (refine Below.drewN ?_ _) | (refine Below.next (by assumption) ?_ (by first | omega | (simp; done) | (simp; omega)))))⟩
  by_cases t0 : L0a.length + L0b.length + L0c.length ≤ 1048576
  case neg =>
    go_enter Try.func6, Try.ntmps6
    go_wp2_with (first | (go_at_call 11; refine (szTransition_no _ _ _ _ _ _ _ _ _ _ _ _ (by omega) (by omega) (by omega) (by omega) (by omega) (by omega)).mono ?_; rintro e w' ⟨rfl, hq⟩; obtain ⟨hz, hc, hf⟩ := bel hq; (try simp at hz); (try simp at hz); (try have gz1 : w.heap.size < w'.heap.size := by omega); (try have gz2 : w.heap.size + 1 < w'.heap.size := by omega); (try have gz3 : wr.heap.size < w'.heap.size := by omega)) | (go_at_call 11; refine (szTransition_yes _ _ _ _ _ _ _ _ _ _ _ _ (by omega) (by omega) (by omega)).mono ?_; rintro e w' ⟨rfl, hq⟩; obtain ⟨hz, hc, hf⟩ := bel hq; (try simp at hz); (try simp at hz); (try have gz1 : w.heap.size < w'.heap.size := by omega); (try have gz2 : w.heap.size + 1 < w'.heap.size := by omega); (try have gz3 : wr.heap.size < w'.heap.size := by omega)))
    go_ret
    exact ⟨rfl, by (repeat (first | exact Below.refl _ _ | assumption | (refine Below.alloc ?_ (by first | omega | (simp; done) | (simp; omega)) _) | (refine Below.setCell ?_ (by first | omega | (simp; done) | (simp; omega)) _) | (refine Below.drew ?_) | (refine Below.drewN ?_ _) | (refine Below.next (by assumption) ?_ (by first | omega | (simp; done) | (simp; omega)))))⟩
  have u0a : L0a.length ≤ 1048576 := by omega
  have u0b : L0b.length ≤ 1048576 := by omega
  have u0c : L0c.length ≤ 1048576 := by omega
  have u1 : L1.length ≤ 1048576 := by omega
  go_enter Try.func6, Try.ntmps6
  go_wp2_with fail
  refine (szTransition_yes _ _ _ _ _ _ _ _ _ _ _ _ (by omega) (by omega) (by omega)).mono ?_
  rintro e w1 ⟨rfl, hq1⟩
  have f0_0_1 : w1.cell? ⟨w.heap.size, 0, none⟩ = some (.slice A0a L0a.length c0a) := keep1 hq1 (by first | (simp [go_sem]; done))
  have f0_1_1 : w1.cell? ⟨w.heap.size, 1, none⟩ = some (.slice A0b L0b.length c0b) := keep1 hq1 (by first | (simp [go_sem]; done))
  have f0_2_1 : w1.cell? ⟨w.heap.size, 2, none⟩ = some (.int .i64 N0) := keep1 hq1 (by first | (simp [go_sem]; done))
  have f0_3_1 : w1.cell? ⟨w.heap.size, 3, none⟩ = some (.slice A0c L0c.length c0c) := keep1 hq1 (by first | (simp [go_sem]; done))
  have g0_1 : w.heap.size < w1.heap.size := World.block_lt_of_cell? _ _ f0_0_1
  have hz1 := hq1.size
  (try simp at hz1)
  go_wp2_with fail
  refine (toTransition_any _ _ L0a _ _ L0b N0 _ _ L0c _ (m0a.below (by (repeat (first | exact Below.refl _ _ | assumption | (refine Below.alloc ?_ (by first | omega | (simp; done) | (simp; omega)) _) | (refine Below.setCell ?_ (by first | omega | (simp; done) | (simp; omega)) _) | (refine Below.drew ?_) | (refine Below.drewN ?_ _) | (refine Below.next (by assumption) ?_ (by first | omega | (simp; done) | (simp; omega))))))) (m0b.below (by (repeat (first | exact Below.refl _ _ | assumption | (refine Below.alloc ?_ (by first | omega | (simp; done) | (simp; omega)) _) | (refine Below.setCell ?_ (by first | omega | (simp; done) | (simp; omega)) _) | (refine Below.drew ?_) | (refine Below.drewN ?_ _) | (refine Below.next (by assumption) ?_ (by first | omega | (simp; done) | (simp; omega))))))) (m0c.below (by (repeat (first | exact Below.refl _ _ | assumption | (refine Below.alloc ?_ (by first | omega | (simp; done) | (simp; omega)) _) | (refine Below.setCell ?_ (by first | omega | (simp; done) | (simp; omega)) _) | (refine Below.drew ?_) | (refine Below.drewN ?_ _) | (refine Below.next (by assumption) ?_ (by first | omega | (simp; done) | (simp; omega))))))) u0a u0b u0c).mono ?_
  rintro e w2 ⟨Ar2_0a, cr2_0a, Ar2_0b, cr2_0b, Ar2_0c, cr2_0c, sa2_0, sb2_0, rfl, hw2_0a, hw2_0b, hw2_0c, ho2_0a, ho2_0b, ho2_0c, hs2_0, hq2⟩
  have f0_0_2 : w2.cell? ⟨w.heap.size, 0, none⟩ = some (.slice A0a L0a.length c0a) := keep1 hq2 (by first | exact f0_0_1 | exact keepA f0_0_1 | exact keepA (keepA f0_0_1) | exact keepA (keepA (keepA f0_0_1)))
  have f0_1_2 : w2.cell? ⟨w.heap.size, 1, none⟩ = some (.slice A0b L0b.length c0b) := keep1 hq2 (by first | exact f0_1_1 | exact keepA f0_1_1 | exact keepA (keepA f0_1_1) | exact keepA (keepA (keepA f0_1_1)))
  have f0_2_2 : w2.cell? ⟨w.heap.size, 2, none⟩ = some (.int .i64 N0) := keep1 hq2 (by first | exact f0_2_1 | exact keepA f0_2_1 | exact keepA (keepA f0_2_1) | exact keepA (keepA (keepA f0_2_1)))
  have f0_3_2 : w2.cell? ⟨w.heap.size, 3, none⟩ = some (.slice A0c L0c.length c0c) := keep1 hq2 (by first | exact f0_3_1 | exact keepA f0_3_1 | exact keepA (keepA f0_3_1) | exact keepA (keepA (keepA f0_3_1)))
  have g0_2 : w.heap.size < w2.heap.size := World.block_lt_of_cell? _ _ f0_0_2
  clear f0_0_1 f0_1_1 f0_2_1 f0_3_1 g0_1
  have hz2 := hq2.size
  (try simp at hz2)
  go_wp2_with fail
  refine (toIntS_any _ _ _ _ (m1.below (by (repeat (first | exact Below.refl _ _ | assumption | (refine Below.alloc ?_ (by first | omega | (simp; done) | (simp; omega)) _) | (refine Below.setCell ?_ (by first | omega | (simp; done) | (simp; omega)) _) | (refine Below.drew ?_) | (refine Below.drewN ?_ _) | (refine Below.next (by assumption) ?_ (by first | omega | (simp; done) | (simp; omega))))))) (by omega)).mono ?_
  rintro e w3 ⟨Ar3_0, cr3_0, rfl, ho3_0, hq3⟩
  have f0_0_3 : w3.cell? ⟨w.heap.size, 0, none⟩ = some (.slice A0a L0a.length c0a) := keep1 hq3 (by first | exact f0_0_2 | exact keepA f0_0_2 | exact keepA (keepA f0_0_2) | exact keepA (keepA (keepA f0_0_2)))
  have f0_1_3 : w3.cell? ⟨w.heap.size, 1, none⟩ = some (.slice A0b L0b.length c0b) := keep1 hq3 (by first | exact f0_1_2 | exact keepA f0_1_2 | exact keepA (keepA f0_1_2) | exact keepA (keepA (keepA f0_1_2)))
  have f0_2_3 : w3.cell? ⟨w.heap.size, 2, none⟩ = some (.int .i64 N0) := keep1 hq3 (by first | exact f0_2_2 | exact keepA f0_2_2 | exact keepA (keepA f0_2_2) | exact keepA (keepA (keepA f0_2_2)))
  have f0_3_3 : w3.cell? ⟨w.heap.size, 3, none⟩ = some (.slice A0c L0c.length c0c) := keep1 hq3 (by first | exact f0_3_2 | exact keepA f0_3_2 | exact keepA (keepA f0_3_2) | exact keepA (keepA (keepA f0_3_2)))
  have g0_3 : w.heap.size < w3.heap.size := World.block_lt_of_cell? _ _ f0_0_3
  clear f0_0_2 f0_1_2 f0_2_2 f0_3_2 g0_2
  have hz3 := hq3.size
  (try simp at hz3)
  go_wp2_with fail
  refine (spec_IsRepair_any _ _ L0a _ _ L0b N0 _ _ L0c _ _ L1 a2 _ (Mem.below (Mem.of_own hw2_0a) (by (repeat (first | exact Below.refl _ _ | assumption | (refine Below.alloc ?_ (by first | omega | (simp; done) | (simp; omega)) _) | (refine Below.setCell ?_ (by first | omega | (simp; done) | (simp; omega)) _) | (refine Below.drew ?_) | (refine Below.drewN ?_ _) | (refine Below.next (by assumption) ?_ (by first | omega | (simp; done) | (simp; omega))))))) (Mem.below (Mem.of_own hw2_0b) (by (repeat (first | exact Below.refl _ _ | assumption | (refine Below.alloc ?_ (by first | omega | (simp; done) | (simp; omega)) _) | (refine Below.setCell ?_ (by first | omega | (simp; done) | (simp; omega)) _) | (refine Below.drew ?_) | (refine Below.drewN ?_ _) | (refine Below.next (by assumption) ?_ (by first | omega | (simp; done) | (simp; omega))))))) (Mem.below (Mem.of_own hw2_0c) (by (repeat (first | exact Below.refl _ _ | assumption | (refine Below.alloc ?_ (by first | omega | (simp; done) | (simp; omega)) _) | (refine Below.setCell ?_ (by first | omega | (simp; done) | (simp; omega)) _) | (refine Below.drew ?_) | (refine Below.drewN ?_ _) | (refine Below.next (by assumption) ?_ (by first | omega | (simp; done) | (simp; omega))))))) u0a u0b u0c (own_cap hw2_0a) (own_cap hw2_0b) (own_cap hw2_0c) (Mem.below (Mem.of_own ho3_0) (by (repeat (first | exact Below.refl _ _ | assumption | (refine Below.alloc ?_ (by first | omega | (simp; done) | (simp; omega)) _) | (refine Below.setCell ?_ (by first | omega | (simp; done) | (simp; omega)) _) | (refine Below.drew ?_) | (refine Below.drewN ?_ _) | (refine Below.next (by assumption) ?_ (by first | omega | (simp; done) | (simp; omega))))))) u1 (own_cap ho3_0)).mono ?_
  rintro e w4 ⟨rfl, hq4⟩
  have f0_0_4 : w4.cell? ⟨w.heap.size, 0, none⟩ = some (.slice A0a L0a.length c0a) := keep1 hq4 (by first | exact f0_0_3 | exact keepA f0_0_3 | exact keepA (keepA f0_0_3) | exact keepA (keepA (keepA f0_0_3)))
  have f0_1_4 : w4.cell? ⟨w.heap.size, 1, none⟩ = some (.slice A0b L0b.length c0b) := keep1 hq4 (by first | exact f0_1_3 | exact keepA f0_1_3 | exact keepA (keepA f0_1_3) | exact keepA (keepA (keepA f0_1_3)))
  have f0_2_4 : w4.cell? ⟨w.heap.size, 2, none⟩ = some (.int .i64 N0) := keep1 hq4 (by first | exact f0_2_3 | exact keepA f0_2_3 | exact keepA (keepA f0_2_3) | exact keepA (keepA (keepA f0_2_3)))
  have f0_3_4 : w4.cell? ⟨w.heap.size, 3, none⟩ = some (.slice A0c L0c.length c0c) := keep1 hq4 (by first | exact f0_3_3 | exact keepA f0_3_3 | exact keepA (keepA f0_3_3) | exact keepA (keepA (keepA f0_3_3)))
  have g0_4 : w.heap.size < w4.heap.size := World.block_lt_of_cell? _ _ f0_0_4
  clear f0_0_3 f0_1_3 f0_2_3 f0_3_3 g0_3
  have hz4 := hq4.size
  (try simp at hz4)
  go_wp2_with fail
  refine (toTransition_any _ _ L0a _ _ L0b N0 _ _ L0c _ (m0a.below (by (repeat (first | exact Below.refl _ _ | assumption | (refine Below.alloc ?_ (by first | omega | (simp; done) | (simp; omega)) _) | (refine Below.setCell ?_ (by first | omega | (simp; done) | (simp; omega)) _) | (refine Below.drew ?_) | (refine Below.drewN ?_ _) | (refine Below.next (by assumption) ?_ (by first | omega | (simp; done) | (simp; omega))))))) (m0b.below (by (repeat (first | exact Below.refl _ _ | assumption | (refine Below.alloc ?_ (by first | omega | (simp; done) | (simp; omega)) _) | (refine Below.setCell ?_ (by first | omega | (simp; done) | (simp; omega)) _) | (refine Below.drew ?_) | (refine Below.drewN ?_ _) | (refine Below.next (by assumption) ?_ (by first | omega | (simp; done) | (simp; omega))))))) (m0c.below (by (repeat (first | exact Below.refl _ _ | assumption | (refine Below.alloc ?_ (by first | omega | (simp; done) | (simp; omega)) _) | (refine Below.setCell ?_ (by first | omega | (simp; done) | (simp; omega)) _) | (refine Below.drew ?_) | (refine Below.drewN ?_ _) | (refine Below.next (by assumption) ?_ (by first | omega | (simp; done) | (simp; omega))))))) u0a u0b u0c).mono ?_
  rintro e w5 ⟨Ar5_0a, cr5_0a, Ar5_0b, cr5_0b, Ar5_0c, cr5_0c, sa5_0, sb5_0, rfl, hw5_0a, hw5_0b, hw5_0c, ho5_0a, ho5_0b, ho5_0c, hs5_0, hq5⟩
  have f0_0_5 : w5.cell? ⟨w.heap.size, 0, none⟩ = some (.slice A0a L0a.length c0a) := keep1 hq5 (by first | exact f0_0_4 | exact keepA f0_0_4 | exact keepA (keepA f0_0_4) | exact keepA (keepA (keepA f0_0_4)))
  have f0_1_5 : w5.cell? ⟨w.heap.size, 1, none⟩ = some (.slice A0b L0b.length c0b) := keep1 hq5 (by first | exact f0_1_4 | exact keepA f0_1_4 | exact keepA (keepA f0_1_4) | exact keepA (keepA (keepA f0_1_4)))
  have f0_2_5 : w5.cell? ⟨w.heap.size, 2, none⟩ = some (.int .i64 N0) := keep1 hq5 (by first | exact f0_2_4 | exact keepA f0_2_4 | exact keepA (keepA f0_2_4) | exact keepA (keepA (keepA f0_2_4)))
  have f0_3_5 : w5.cell? ⟨w.heap.size, 3, none⟩ = some (.slice A0c L0c.length c0c) := keep1 hq5 (by first | exact f0_3_4 | exact keepA f0_3_4 | exact keepA (keepA f0_3_4) | exact keepA (keepA (keepA f0_3_4)))
  have g0_5 : w.heap.size < w5.heap.size := World.block_lt_of_cell? _ _ f0_0_5
  clear f0_0_4 f0_1_4 f0_2_4 f0_3_4 g0_4
  have hz5 := hq5.size
  (try simp at hz5)
  go_wp2_with fail
  refine (toIntS_any _ _ _ _ (m1.below (by (repeat (first | exact Below.refl _ _ | assumption | (refine Below.alloc ?_ (by first | omega | (simp; done) | (simp; omega)) _) | (refine Below.setCell ?_ (by first | omega | (simp; done) | (simp; omega)) _) | (refine Below.drew ?_) | (refine Below.drewN ?_ _) | (refine Below.next (by assumption) ?_ (by first | omega | (simp; done) | (simp; omega))))))) (by omega)).mono ?_
  rintro e w6 ⟨Ar6_0, cr6_0, rfl, ho6_0, hq6⟩
  have f0_0_6 : w6.cell? ⟨w.heap.size, 0, none⟩ = some (.slice A0a L0a.length c0a) := keep1 hq6 (by first | exact f0_0_5 | exact keepA f0_0_5 | exact keepA (keepA f0_0_5) | exact keepA (keepA (keepA f0_0_5)))
  have f0_1_6 : w6.cell? ⟨w.heap.size, 1, none⟩ = some (.slice A0b L0b.length c0b) := keep1 hq6 (by first | exact f0_1_5 | exact keepA f0_1_5 | exact keepA (keepA f0_1_5) | exact keepA (keepA (keepA f0_1_5)))
  have f0_2_6 : w6.cell? ⟨w.heap.size, 2, none⟩ = some (.int .i64 N0) := keep1 hq6 (by first | exact f0_2_5 | exact keepA f0_2_5 | exact keepA (keepA f0_2_5) | exact keepA (keepA (keepA f0_2_5)))
  have f0_3_6 : w6.cell? ⟨w.heap.size, 3, none⟩ = some (.slice A0c L0c.length c0c) := keep1 hq6 (by first | exact f0_3_5 | exact keepA f0_3_5 | exact keepA (keepA f0_3_5) | exact keepA (keepA (keepA f0_3_5)))
  have f1_0_6 : w6.cell? ⟨w5.heap.size, 0, none⟩ = some (.slice Ar5_0a L0a.length cr5_0a) := keep1 hq6 (by first | (simp [go_sem]; done))
  have f1_1_6 : w6.cell? ⟨w5.heap.size, 1, none⟩ = some (.slice Ar5_0b L0b.length cr5_0b) := keep1 hq6 (by first | (simp [go_sem]; done))
  have f1_2_6 : w6.cell? ⟨w5.heap.size, 2, none⟩ = some (.int .i64 N0) := keep1 hq6 (by first | (simp [go_sem]; done))
  have f1_3_6 : w6.cell? ⟨w5.heap.size, 3, none⟩ = some (.slice Ar5_0c L0c.length cr5_0c) := keep1 hq6 (by first | (simp [go_sem]; done))
  have g0_6 : w.heap.size < w6.heap.size := World.block_lt_of_cell? _ _ f0_0_6
  have g1_6 : w5.heap.size < w6.heap.size := World.block_lt_of_cell? _ _ f1_0_6
  clear f0_0_5 f0_1_5 f0_2_5 f0_3_5 g0_5
  have hz6 := hq6.size
  (try simp at hz6)
  go_wp2_with fail
  refine (impl_IsRepair_any _ _ L0a _ _ L0b N0 _ _ L0c _ _ L1 a2 _ (Mem.below (Mem.of_own hw5_0a) (by (repeat (first | exact Below.refl _ _ | assumption | (refine Below.alloc ?_ (by first | omega | (simp; done) | (simp; omega)) _) | (refine Below.setCell ?_ (by first | omega | (simp; done) | (simp; omega)) _) | (refine Below.drew ?_) | (refine Below.drewN ?_ _) | (refine Below.next (by assumption) ?_ (by first | omega | (simp; done) | (simp; omega))))))) (Mem.below (Mem.of_own hw5_0b) (by (repeat (first | exact Below.refl _ _ | assumption | (refine Below.alloc ?_ (by first | omega | (simp; done) | (simp; omega)) _) | (refine Below.setCell ?_ (by first | omega | (simp; done) | (simp; omega)) _) | (refine Below.drew ?_) | (refine Below.drewN ?_ _) | (refine Below.next (by assumption) ?_ (by first | omega | (simp; done) | (simp; omega))))))) (Mem.below (Mem.of_own hw5_0c) (by (repeat (first | exact Below.refl _ _ | assumption | (refine Below.alloc ?_ (by first | omega | (simp; done) | (simp; omega)) _) | (refine Below.setCell ?_ (by first | omega | (simp; done) | (simp; omega)) _) | (refine Below.drew ?_) | (refine Below.drewN ?_ _) | (refine Below.next (by assumption) ?_ (by first | omega | (simp; done) | (simp; omega))))))) u0a u0b u0c (own_cap hw5_0a) (own_cap hw5_0b) (own_cap hw5_0c) (Mem.below (Mem.of_own ho6_0) (by (repeat (first | exact Below.refl _ _ | assumption | (refine Below.alloc ?_ (by first | omega | (simp; done) | (simp; omega)) _) | (refine Below.setCell ?_ (by first | omega | (simp; done) | (simp; omega)) _) | (refine Below.drew ?_) | (refine Below.drewN ?_ _) | (refine Below.next (by assumption) ?_ (by first | omega | (simp; done) | (simp; omega))))))) u1 (own_cap ho6_0)).mono ?_
  rintro e w7 ⟨rfl, hq7⟩
  have f0_0_7 : w7.cell? ⟨w.heap.size, 0, none⟩ = some (.slice A0a L0a.length c0a) := keep1 hq7 (by first | exact f0_0_6 | exact keepA f0_0_6 | exact keepA (keepA f0_0_6) | exact keepA (keepA (keepA f0_0_6)))
  have f0_1_7 : w7.cell? ⟨w.heap.size, 1, none⟩ = some (.slice A0b L0b.length c0b) := keep1 hq7 (by first | exact f0_1_6 | exact keepA f0_1_6 | exact keepA (keepA f0_1_6) | exact keepA (keepA (keepA f0_1_6)))
  have f0_2_7 : w7.cell? ⟨w.heap.size, 2, none⟩ = some (.int .i64 N0) := keep1 hq7 (by first | exact f0_2_6 | exact keepA f0_2_6 | exact keepA (keepA f0_2_6) | exact keepA (keepA (keepA f0_2_6)))
  have f0_3_7 : w7.cell? ⟨w.heap.size, 3, none⟩ = some (.slice A0c L0c.length c0c) := keep1 hq7 (by first | exact f0_3_6 | exact keepA f0_3_6 | exact keepA (keepA f0_3_6) | exact keepA (keepA (keepA f0_3_6)))
  have f1_0_7 : w7.cell? ⟨w5.heap.size, 0, none⟩ = some (.slice Ar5_0a L0a.length cr5_0a) := keep1 hq7 (by first | exact f1_0_6 | exact keepA f1_0_6 | exact keepA (keepA f1_0_6) | exact keepA (keepA (keepA f1_0_6)))
  have f1_1_7 : w7.cell? ⟨w5.heap.size, 1, none⟩ = some (.slice Ar5_0b L0b.length cr5_0b) := keep1 hq7 (by first | exact f1_1_6 | exact keepA f1_1_6 | exact keepA (keepA f1_1_6) | exact keepA (keepA (keepA f1_1_6)))
  have f1_2_7 : w7.cell? ⟨w5.heap.size, 2, none⟩ = some (.int .i64 N0) := keep1 hq7 (by first | exact f1_2_6 | exact keepA f1_2_6 | exact keepA (keepA f1_2_6) | exact keepA (keepA (keepA f1_2_6)))
  have f1_3_7 : w7.cell? ⟨w5.heap.size, 3, none⟩ = some (.slice Ar5_0c L0c.length cr5_0c) := keep1 hq7 (by first | exact f1_3_6 | exact keepA f1_3_6 | exact keepA (keepA f1_3_6) | exact keepA (keepA (keepA f1_3_6)))
  have g0_7 : w.heap.size < w7.heap.size := World.block_lt_of_cell? _ _ f0_0_7
  have g1_7 : w5.heap.size < w7.heap.size := World.block_lt_of_cell? _ _ f1_0_7
  clear f0_0_6 f0_1_6 f0_2_6 f0_3_6 f1_0_6 f1_1_6 f1_2_6 f1_3_6 g0_6 g1_6
  have hz7 := hq7.size
  (try simp at hz7)
  go_wp2_with fail
  go_region_held3 (fun w' => w'.cell? ⟨w.heap.size, 0, none⟩ = some (.slice A0a L0a.length c0a) ∧ w'.cell? ⟨w.heap.size, 1, none⟩ = some (.slice A0b L0b.length c0b) ∧ w'.cell? ⟨w.heap.size, 2, none⟩ = some (.int .i64 N0) ∧ w'.cell? ⟨w.heap.size, 3, none⟩ = some (.slice A0c L0c.length c0c) ∧ w'.cell? ⟨w5.heap.size, 0, none⟩ = some (.slice Ar5_0a L0a.length cr5_0a) ∧ w'.cell? ⟨w5.heap.size, 1, none⟩ = some (.slice Ar5_0b L0b.length cr5_0b) ∧ w'.cell? ⟨w5.heap.size, 2, none⟩ = some (.int .i64 N0) ∧ w'.cell? ⟨w5.heap.size, 3, none⟩ = some (.slice Ar5_0c L0c.length cr5_0c)) (first | assumption | exact ⟨f0_0_7, f0_1_7, f0_2_7, f0_3_7, f1_0_7, f1_1_7, f1_2_7, f1_3_7⟩ | exact ⟨(keepA f0_0_7), (keepA f0_1_7), (keepA f0_2_7), (keepA f0_3_7), (keepA f1_0_7), (keepA f1_1_7), (keepA f1_2_7), (keepA f1_3_7)⟩ | exact ⟨(keepA (keepA f0_0_7)), (keepA (keepA f0_1_7)), (keepA (keepA f0_2_7)), (keepA (keepA f0_3_7)), (keepA (keepA f1_0_7)), (keepA (keepA f1_1_7)), (keepA (keepA f1_2_7)), (keepA (keepA f1_3_7))⟩) (first | (go_at_call 13; (with_reducible refine (toTransition_any _ _ L0a _ _ L0b N0 _ _ L0c _ (m0a.below (by (repeat (first | exact Below.refl _ _ | assumption | (refine Below.alloc ?_ (by first | omega | (simp; done) | (simp; omega)) _) | (refine Below.setCell ?_ (by first | omega | (simp; done) | (simp; omega)) _) | (refine Below.drew ?_) | (refine Below.drewN ?_ _) | (refine Below.next (by assumption) ?_ (by first | omega | (simp; done) | (simp; omega))))))) (m0b.below (by (repeat (first | exact Below.refl _ _ | assumption | (refine Below.alloc ?_ (by first | omega | (simp; done) | (simp; omega)) _) | (refine Below.setCell ?_ (by first | omega | (simp; done) | (simp; omega)) _) | (refine Below.drew ?_) | (refine Below.drewN ?_ _) | (refine Below.next (by assumption) ?_ (by first | omega | (simp; done) | (simp; omega))))))) (m0c.below (by (repeat (first | exact Below.refl _ _ | assumption | (refine Below.alloc ?_ (by first | omega | (simp; done) | (simp; omega)) _) | (refine Below.setCell ?_ (by first | omega | (simp; done) | (simp; omega)) _) | (refine Below.drew ?_) | (refine Below.drewN ?_ _) | (refine Below.next (by assumption) ?_ (by first | omega | (simp; done) | (simp; omega))))))) u0a u0b u0c).mono ?_); rintro e w8 ⟨Ar8_0a, cr8_0a, Ar8_0b, cr8_0b, Ar8_0c, cr8_0c, sa8_0, sb8_0, rfl, hw8_0a, hw8_0b, hw8_0c, ho8_0a, ho8_0b, ho8_0c, hs8_0, hq8⟩; have hz8 := hq8.size; (try simp at hz8); have hS8 := keepN8 hq8 (by assumption)) | (go_at_call 17; (with_reducible refine (eqTransition_same _ _ L0a _ _ L0b N0 _ _ L0c _ _ _ _ _ _ _ (Mem.below (Mem.of_own hw5_0a) (by (repeat (first | exact Below.refl _ _ | assumption | (refine Below.alloc ?_ (by first | omega | (simp; done) | (simp; omega)) _) | (refine Below.setCell ?_ (by first | omega | (simp; done) | (simp; omega)) _) | (refine Below.drew ?_) | (refine Below.drewN ?_ _) | (refine Below.next (by assumption) ?_ (by first | omega | (simp; done) | (simp; omega))))))) (Mem.below (Mem.of_own hw5_0b) (by (repeat (first | exact Below.refl _ _ | assumption | (refine Below.alloc ?_ (by first | omega | (simp; done) | (simp; omega)) _) | (refine Below.setCell ?_ (by first | omega | (simp; done) | (simp; omega)) _) | (refine Below.drew ?_) | (refine Below.drewN ?_ _) | (refine Below.next (by assumption) ?_ (by first | omega | (simp; done) | (simp; omega))))))) (Mem.below (Mem.of_own hw5_0c) (by (repeat (first | exact Below.refl _ _ | assumption | (refine Below.alloc ?_ (by first | omega | (simp; done) | (simp; omega)) _) | (refine Below.setCell ?_ (by first | omega | (simp; done) | (simp; omega)) _) | (refine Below.drew ?_) | (refine Below.drewN ?_ _) | (refine Below.next (by assumption) ?_ (by first | omega | (simp; done) | (simp; omega))))))) (Mem.below (Mem.of_own hw8_0a) (by (repeat (first | exact Below.refl _ _ | assumption | (refine Below.alloc ?_ (by first | omega | (simp; done) | (simp; omega)) _) | (refine Below.setCell ?_ (by first | omega | (simp; done) | (simp; omega)) _) | (refine Below.drew ?_) | (refine Below.drewN ?_ _) | (refine Below.next (by assumption) ?_ (by first | omega | (simp; done) | (simp; omega))))))) (Mem.below (Mem.of_own hw8_0b) (by (repeat (first | exact Below.refl _ _ | assumption | (refine Below.alloc ?_ (by first | omega | (simp; done) | (simp; omega)) _) | (refine Below.setCell ?_ (by first | omega | (simp; done) | (simp; omega)) _) | (refine Below.drew ?_) | (refine Below.drewN ?_ _) | (refine Below.next (by assumption) ?_ (by first | omega | (simp; done) | (simp; omega))))))) (Mem.below (Mem.of_own hw8_0c) (by (repeat (first | exact Below.refl _ _ | assumption | (refine Below.alloc ?_ (by first | omega | (simp; done) | (simp; omega)) _) | (refine Below.setCell ?_ (by first | omega | (simp; done) | (simp; omega)) _) | (refine Below.drew ?_) | (refine Below.drewN ?_ _) | (refine Below.next (by assumption) ?_ (by first | omega | (simp; done) | (simp; omega))))))) u0a u0b u0c).mono ?_); rintro e w9 ⟨rfl, hq9⟩; have hz9 := hq9.size; (try simp at hz9); have hS9 := keepN8 hq9 (by assumption)))
  obtain ⟨f0_0_9, f0_1_9, f0_2_9, f0_3_9, f1_0_9, f1_1_9, f1_2_9, f1_3_9⟩ := hS9
  clear f0_0_7 f0_1_7 f0_2_7 f0_3_7 f1_0_7 f1_1_7 f1_2_7 f1_3_7 hS8
  have g0_9 : w.heap.size < w9.heap.size := World.block_lt_of_cell? _ _ f0_0_9
  have g1_9 : w5.heap.size < w9.heap.size := World.block_lt_of_cell? _ _ f1_0_9
  clear g0_7 g1_7
  go_wp2_with fail
  refine (toIntS_any _ _ _ _ (m1.below (by (repeat (first | exact Below.refl _ _ | assumption | (refine Below.alloc ?_ (by first | omega | (simp; done) | (simp; omega)) _) | (refine Below.setCell ?_ (by first | omega | (simp; done) | (simp; omega)) _) | (refine Below.drew ?_) | (refine Below.drewN ?_ _) | (refine Below.next (by assumption) ?_ (by first | omega | (simp; done) | (simp; omega))))))) (by omega)).mono ?_
  rintro e w10 ⟨Ar10_0, cr10_0, rfl, ho10_0, hq10⟩
  have f0_0_10 : w10.cell? ⟨w.heap.size, 0, none⟩ = some (.slice A0a L0a.length c0a) := keep1 hq10 (by first | exact f0_0_9 | exact keepA f0_0_9 | exact keepA (keepA f0_0_9) | exact keepA (keepA (keepA f0_0_9)))
  have f0_1_10 : w10.cell? ⟨w.heap.size, 1, none⟩ = some (.slice A0b L0b.length c0b) := keep1 hq10 (by first | exact f0_1_9 | exact keepA f0_1_9 | exact keepA (keepA f0_1_9) | exact keepA (keepA (keepA f0_1_9)))
  have f0_2_10 : w10.cell? ⟨w.heap.size, 2, none⟩ = some (.int .i64 N0) := keep1 hq10 (by first | exact f0_2_9 | exact keepA f0_2_9 | exact keepA (keepA f0_2_9) | exact keepA (keepA (keepA f0_2_9)))
  have f0_3_10 : w10.cell? ⟨w.heap.size, 3, none⟩ = some (.slice A0c L0c.length c0c) := keep1 hq10 (by first | exact f0_3_9 | exact keepA f0_3_9 | exact keepA (keepA f0_3_9) | exact keepA (keepA (keepA f0_3_9)))
  have f1_0_10 : w10.cell? ⟨w5.heap.size, 0, none⟩ = some (.slice Ar5_0a L0a.length cr5_0a) := keep1 hq10 (by first | exact f1_0_9 | exact keepA f1_0_9 | exact keepA (keepA f1_0_9) | exact keepA (keepA (keepA f1_0_9)))
  have f1_1_10 : w10.cell? ⟨w5.heap.size, 1, none⟩ = some (.slice Ar5_0b L0b.length cr5_0b) := keep1 hq10 (by first | exact f1_1_9 | exact keepA f1_1_9 | exact keepA (keepA f1_1_9) | exact keepA (keepA (keepA f1_1_9)))
  have f1_2_10 : w10.cell? ⟨w5.heap.size, 2, none⟩ = some (.int .i64 N0) := keep1 hq10 (by first | exact f1_2_9 | exact keepA f1_2_9 | exact keepA (keepA f1_2_9) | exact keepA (keepA (keepA f1_2_9)))
  have f1_3_10 : w10.cell? ⟨w5.heap.size, 3, none⟩ = some (.slice Ar5_0c L0c.length cr5_0c) := keep1 hq10 (by first | exact f1_3_9 | exact keepA f1_3_9 | exact keepA (keepA f1_3_9) | exact keepA (keepA (keepA f1_3_9)))
  have g0_10 : w.heap.size < w10.heap.size := World.block_lt_of_cell? _ _ f0_0_10
  have g1_10 : w5.heap.size < w10.heap.size := World.block_lt_of_cell? _ _ f1_0_10
  clear f0_0_9 f0_1_9 f0_2_9 f0_3_9 f1_0_9 f1_1_9 f1_2_9 f1_3_9 g0_9 g1_9
  have hz10 := hq10.size
  (try simp at hz10)
  go_wp2_with fail
  refine (eqIntS_any _ _ _ _ _ _ _ (Mem.below (Mem.of_own ho6_0) (by (repeat (first | exact Below.refl _ _ | assumption | (refine Below.alloc ?_ (by first | omega | (simp; done) | (simp; omega)) _) | (refine Below.setCell ?_ (by first | omega | (simp; done) | (simp; omega)) _) | (refine Below.drew ?_) | (refine Below.drewN ?_ _) | (refine Below.next (by assumption) ?_ (by first | omega | (simp; done) | (simp; omega))))))) (Mem.below (Mem.of_own ho10_0) (by (repeat (first | exact Below.refl _ _ | assumption | (refine Below.alloc ?_ (by first | omega | (simp; done) | (simp; omega)) _) | (refine Below.setCell ?_ (by first | omega | (simp; done) | (simp; omega)) _) | (refine Below.drew ?_) | (refine Below.drewN ?_ _) | (refine Below.next (by assumption) ?_ (by first | omega | (simp; done) | (simp; omega))))))) (by omega) (by omega)).mono ?_
  rintro e w11 ⟨rfl, hq11⟩
  have f0_0_11 : w11.cell? ⟨w.heap.size, 0, none⟩ = some (.slice A0a L0a.length c0a) := keep1 hq11 (by first | exact f0_0_10 | exact keepA f0_0_10 | exact keepA (keepA f0_0_10) | exact keepA (keepA (keepA f0_0_10)))
  have f0_1_11 : w11.cell? ⟨w.heap.size, 1, none⟩ = some (.slice A0b L0b.length c0b) := keep1 hq11 (by first | exact f0_1_10 | exact keepA f0_1_10 | exact keepA (keepA f0_1_10) | exact keepA (keepA (keepA f0_1_10)))
  have f0_2_11 : w11.cell? ⟨w.heap.size, 2, none⟩ = some (.int .i64 N0) := keep1 hq11 (by first | exact f0_2_10 | exact keepA f0_2_10 | exact keepA (keepA f0_2_10) | exact keepA (keepA (keepA f0_2_10)))
  have f0_3_11 : w11.cell? ⟨w.heap.size, 3, none⟩ = some (.slice A0c L0c.length c0c) := keep1 hq11 (by first | exact f0_3_10 | exact keepA f0_3_10 | exact keepA (keepA f0_3_10) | exact keepA (keepA (keepA f0_3_10)))
  have f1_0_11 : w11.cell? ⟨w5.heap.size, 0, none⟩ = some (.slice Ar5_0a L0a.length cr5_0a) := keep1 hq11 (by first | exact f1_0_10 | exact keepA f1_0_10 | exact keepA (keepA f1_0_10) | exact keepA (keepA (keepA f1_0_10)))
  have f1_1_11 : w11.cell? ⟨w5.heap.size, 1, none⟩ = some (.slice Ar5_0b L0b.length cr5_0b) := keep1 hq11 (by first | exact f1_1_10 | exact keepA f1_1_10 | exact keepA (keepA f1_1_10) | exact keepA (keepA (keepA f1_1_10)))
  have f1_2_11 : w11.cell? ⟨w5.heap.size, 2, none⟩ = some (.int .i64 N0) := keep1 hq11 (by first | exact f1_2_10 | exact keepA f1_2_10 | exact keepA (keepA f1_2_10) | exact keepA (keepA (keepA f1_2_10)))
  have f1_3_11 : w11.cell? ⟨w5.heap.size, 3, none⟩ = some (.slice Ar5_0c L0c.length cr5_0c) := keep1 hq11 (by first | exact f1_3_10 | exact keepA f1_3_10 | exact keepA (keepA f1_3_10) | exact keepA (keepA (keepA f1_3_10)))
  have g0_11 : w.heap.size < w11.heap.size := World.block_lt_of_cell? _ _ f0_0_11
  have g1_11 : w5.heap.size < w11.heap.size := World.block_lt_of_cell? _ _ f1_0_11
  clear f0_0_10 f0_1_10 f0_2_10 f0_3_10 f1_0_10 f1_1_10 f1_2_10 f1_3_10 g0_10 g1_10
  have hz11 := hq11.size
  (try simp at hz11)
  go_wp2_with fail
  go_ret
  exact ⟨rfl, by (repeat (first | exact Below.refl _ _ | assumption | (refine Below.alloc ?_ (by first | omega | (simp; done) | (simp; omega)) _) | (refine Below.setCell ?_ (by first | omega | (simp; done) | (simp; omega)) _) | (refine Below.drew ?_) | (refine Below.drewN ?_ _) | (refine Below.next (by assumption) ?_ (by first | omega | (simp; done) | (simp; omega)))))⟩
end Go.Proofs.Ytjnkkeaknaoghaa
