/-
  Walks of laws: ShortenSheet.
-/
import Derived.Test.YtbnelhhicfnbeaaCpy
import Derived.Test.YtbnelhhicfnbeaaCpySp
import Derived.Test.YtbnelhhicfnbeaaShu
import Derived.Test.YtbnelhhicfnbeaaSht
import Derived.Deep.RegionHeld3
namespace Go.Proofs.Ytbnelhhicfnbeaa
open Go.RowKit Go.Sort

theorem keepG {W w' : World} {p : Addr} {v : Value} {row : Option Nat} (hg : W.grownBy w' row) (h : W.cell? p = some v) (hr : ∀ k, row = some k → p.block ≠ k) : w'.cell? p = some v := hg.cell h (fun e => hr p.block e.symm rfl)
theorem keepA {w : World} {o : Obj} {p : Addr} {v : Value} (h : w.cell? p = some v) : (w.alloc o).cell? p = some v := keep1 ((Below.refl _ _).alloc (Nat.le_refl _) o) h
theorem jn_len {M : List Mv} : ∀ k, (jnTo M k).length ≤ k
  | 0 => by simp [jnTo]
  | k + 1 => by
    have ih := jn_len (M := M) k
    rw [jnTo]
    cases M[k]? with
    | none => exact Nat.le_succ_of_le ih
    | some m =>
      simp only [stepJ]
      split
      · split
        · rw [List.length_set]; omega
        · simp; omega
      · simp; omega
theorem ssV_le (p : Int) (s : Sp) (L : List Rw) : (ssV p s L).length ≤ L.length := by
  unfold ssV
  split
  · rw [List.length_map]; exact jn_len _
  · simp
theorem keepN16 {W w' : World} {p0 p1 p2 p3 p4 p5 p6 p7 p8 p9 p10 p11 p12 p13 p14 p15 : Addr} {v0 v1 v2 v3 v4 v5 v6 v7 v8 v9 v10 v11 v12 v13 v14 v15 : Value} (hq : Below W.heap.size W w') (h : W.cell? p0 = some v0 ∧ W.cell? p1 = some v1 ∧ W.cell? p2 = some v2 ∧ W.cell? p3 = some v3 ∧ W.cell? p4 = some v4 ∧ W.cell? p5 = some v5 ∧ W.cell? p6 = some v6 ∧ W.cell? p7 = some v7 ∧ W.cell? p8 = some v8 ∧ W.cell? p9 = some v9 ∧ W.cell? p10 = some v10 ∧ W.cell? p11 = some v11 ∧ W.cell? p12 = some v12 ∧ W.cell? p13 = some v13 ∧ W.cell? p14 = some v14 ∧ W.cell? p15 = some v15) : w'.cell? p0 = some v0 ∧ w'.cell? p1 = some v1 ∧ w'.cell? p2 = some v2 ∧ w'.cell? p3 = some v3 ∧ w'.cell? p4 = some v4 ∧ w'.cell? p5 = some v5 ∧ w'.cell? p6 = some v6 ∧ w'.cell? p7 = some v7 ∧ w'.cell? p8 = some v8 ∧ w'.cell? p9 = some v9 ∧ w'.cell? p10 = some v10 ∧ w'.cell? p11 = some v11 ∧ w'.cell? p12 = some v12 ∧ w'.cell? p13 = some v13 ∧ w'.cell? p14 = some v14 ∧ w'.cell? p15 = some v15 :=
  ⟨keep1 hq h.1, keep1 hq h.2.1, keep1 hq h.2.2.1, keep1 hq h.2.2.2.1, keep1 hq h.2.2.2.2.1, keep1 hq h.2.2.2.2.2.1, keep1 hq h.2.2.2.2.2.2.1, keep1 hq h.2.2.2.2.2.2.2.1, keep1 hq h.2.2.2.2.2.2.2.2.1, keep1 hq h.2.2.2.2.2.2.2.2.2.1, keep1 hq h.2.2.2.2.2.2.2.2.2.2.1, keep1 hq h.2.2.2.2.2.2.2.2.2.2.2.1, keep1 hq h.2.2.2.2.2.2.2.2.2.2.2.2.1, keep1 hq h.2.2.2.2.2.2.2.2.2.2.2.2.2.1, keep1 hq h.2.2.2.2.2.2.2.2.2.2.2.2.2.2.1, keep1 hq h.2.2.2.2.2.2.2.2.2.2.2.2.2.2.2⟩
set_option maxRecDepth 100000 in
set_option maxHeartbeats 6400000 in
theorem FnExactShortenSheet_walk (p0 : Int) (s0 : Sp) (A0 : Option Addr) (c0 : Nat) (L0 : List Rw) (w : World) (m0 : Mem w A0 (rows L0)) (l0 : L0.length ≤ c0) (n0 : c0 ≤ maxLen) : Calls Try.prog 3 #[.agg #[.int .i64 p0, .int .i64 s0.x, .int .i64 s0.y, .slice A0 L0.length c0]] w fun e w' => e = .returned (.bool true) ∧ Below w.heap.size w w' := by
  unfold maxLen at n0
  by_cases t0 : L0.length ≤ 1048576
  case neg =>
    go_enter Try.func3, Try.ntmps3
    go_wp2_with (first | (go_at_call 6; refine (szSheet_no _ _ _ _ _ _ _ (by omega) (by omega) (by omega) (by omega)).mono ?_; rintro e w' ⟨rfl, hq⟩; obtain ⟨hz, hc, hf⟩ := bel hq; (try simp at hz); (try simp at hz); (try have gz1 : w.heap.size < w'.heap.size := by omega); (try have gz2 : w.heap.size + 1 < w'.heap.size := by omega); (try have gz3 : wr.heap.size < w'.heap.size := by omega)) | (go_at_call 6; refine (szSheet_yes _ _ _ _ _ _ _ (by omega) (by omega) (by omega)).mono ?_; rintro e w' ⟨rfl, hq⟩; obtain ⟨hz, hc, hf⟩ := bel hq; (try simp at hz); (try simp at hz); (try have gz1 : w.heap.size < w'.heap.size := by omega); (try have gz2 : w.heap.size + 1 < w'.heap.size := by omega); (try have gz3 : wr.heap.size < w'.heap.size := by omega)))
    go_ret
    exact ⟨rfl, by (repeat (first | exact Below.refl _ _ | assumption | (refine Below.alloc ?_ (by first | omega | (simp; done) | (simp; omega)) _) | (refine Below.setCell ?_ (by first | omega | (simp; done) | (simp; omega)) _) | (refine Below.drew ?_) | (refine Below.drewN ?_ _) | (refine Below.next (by assumption) ?_ (by first | omega | (simp; done) | (simp; omega)))))⟩
  have u0 : L0.length ≤ 1048576 := by omega
  have hV0 : (ssV p0 s0 L0).length ≤ 1048576 := Nat.le_trans (ssV_le p0 s0 L0) u0
  go_enter Try.func3, Try.ntmps3
  go_wp2_with fail
  refine (szSheet_yes _ _ _ _ _ _ _ (by omega) (by omega) (by omega)).mono ?_
  rintro e w1 ⟨rfl, hq1⟩
  have f0_0_1 : w1.cell? ⟨w.heap.size, 0, none⟩ = some (.int .i64 p0) := keep1 hq1 (by first | (simp [go_sem]; done))
  have f0_1_1 : w1.cell? ⟨w.heap.size, 1, none⟩ = some (.int .i64 s0.x) := keep1 hq1 (by first | (simp [go_sem]; done))
  have f0_2_1 : w1.cell? ⟨w.heap.size, 2, none⟩ = some (.int .i64 s0.y) := keep1 hq1 (by first | (simp [go_sem]; done))
  have f0_3_1 : w1.cell? ⟨w.heap.size, 3, none⟩ = some (.slice A0 L0.length c0) := keep1 hq1 (by first | (simp [go_sem]; done))
  have g0_1 : w.heap.size < w1.heap.size := World.block_lt_of_cell? _ _ f0_0_1
  have hz1 := hq1.size
  (try simp at hz1)
  go_wp2_with fail
  refine (toSheet_any p0 s0 _ _ L0 _ (m0.below (by (repeat (first | exact Below.refl _ _ | assumption | (refine Below.alloc ?_ (by first | omega | (simp; done) | (simp; omega)) _) | (refine Below.setCell ?_ (by first | omega | (simp; done) | (simp; omega)) _) | (refine Below.drew ?_) | (refine Below.drewN ?_ _) | (refine Below.next (by assumption) ?_ (by first | omega | (simp; done) | (simp; omega))))))) (by omega)).mono ?_
  rintro e w2 ⟨Ar2_0, cr2_0, rfl, ho2_0, hq2⟩
  have f0_0_2 : w2.cell? ⟨w.heap.size, 0, none⟩ = some (.int .i64 p0) := keep1 hq2 (by first | exact f0_0_1 | exact keepA f0_0_1 | exact keepA (keepA f0_0_1) | exact keepA (keepA (keepA f0_0_1)))
  have f0_1_2 : w2.cell? ⟨w.heap.size, 1, none⟩ = some (.int .i64 s0.x) := keep1 hq2 (by first | exact f0_1_1 | exact keepA f0_1_1 | exact keepA (keepA f0_1_1) | exact keepA (keepA (keepA f0_1_1)))
  have f0_2_2 : w2.cell? ⟨w.heap.size, 2, none⟩ = some (.int .i64 s0.y) := keep1 hq2 (by first | exact f0_2_1 | exact keepA f0_2_1 | exact keepA (keepA f0_2_1) | exact keepA (keepA (keepA f0_2_1)))
  have f0_3_2 : w2.cell? ⟨w.heap.size, 3, none⟩ = some (.slice A0 L0.length c0) := keep1 hq2 (by first | exact f0_3_1 | exact keepA f0_3_1 | exact keepA (keepA f0_3_1) | exact keepA (keepA (keepA f0_3_1)))
  have g0_2 : w.heap.size < w2.heap.size := World.block_lt_of_cell? _ _ f0_0_2
  clear f0_0_1 f0_1_1 f0_2_1 f0_3_1 g0_1
  have hz2 := hq2.size
  (try simp at hz2)
  go_wp2_with fail
  refine (spec_ShortenSheet_any p0 s0 _ _ L0 _ (Mem.below (Mem.of_own ho2_0) (by (repeat (first | exact Below.refl _ _ | assumption | (refine Below.alloc ?_ (by first | omega | (simp; done) | (simp; omega)) _) | (refine Below.setCell ?_ (by first | omega | (simp; done) | (simp; omega)) _) | (refine Below.drew ?_) | (refine Below.drewN ?_ _) | (refine Below.next (by assumption) ?_ (by first | omega | (simp; done) | (simp; omega))))))) u0).mono ?_
  rintro e w3 ⟨Ar3_0, cr3_0, rfl, ho3_0, hq3⟩
  have f0_0_3 : w3.cell? ⟨w.heap.size, 0, none⟩ = some (.int .i64 p0) := keep1 hq3 (by first | exact f0_0_2 | exact keepA f0_0_2 | exact keepA (keepA f0_0_2) | exact keepA (keepA (keepA f0_0_2)))
  have f0_1_3 : w3.cell? ⟨w.heap.size, 1, none⟩ = some (.int .i64 s0.x) := keep1 hq3 (by first | exact f0_1_2 | exact keepA f0_1_2 | exact keepA (keepA f0_1_2) | exact keepA (keepA (keepA f0_1_2)))
  have f0_2_3 : w3.cell? ⟨w.heap.size, 2, none⟩ = some (.int .i64 s0.y) := keep1 hq3 (by first | exact f0_2_2 | exact keepA f0_2_2 | exact keepA (keepA f0_2_2) | exact keepA (keepA (keepA f0_2_2)))
  have f0_3_3 : w3.cell? ⟨w.heap.size, 3, none⟩ = some (.slice A0 L0.length c0) := keep1 hq3 (by first | exact f0_3_2 | exact keepA f0_3_2 | exact keepA (keepA f0_3_2) | exact keepA (keepA (keepA f0_3_2)))
  have g0_3 : w.heap.size < w3.heap.size := World.block_lt_of_cell? _ _ f0_0_3
  clear f0_0_2 f0_1_2 f0_2_2 f0_3_2 g0_2
  have hz3 := hq3.size
  (try simp at hz3)
  go_wp2_with fail
  refine (toSheet_any p0 s0 _ _ L0 _ (m0.below (by (repeat (first | exact Below.refl _ _ | assumption | (refine Below.alloc ?_ (by first | omega | (simp; done) | (simp; omega)) _) | (refine Below.setCell ?_ (by first | omega | (simp; done) | (simp; omega)) _) | (refine Below.drew ?_) | (refine Below.drewN ?_ _) | (refine Below.next (by assumption) ?_ (by first | omega | (simp; done) | (simp; omega))))))) (by omega)).mono ?_
  rintro e w4 ⟨Ar4_0, cr4_0, rfl, ho4_0, hq4⟩
  have f0_0_4 : w4.cell? ⟨w.heap.size, 0, none⟩ = some (.int .i64 p0) := keep1 hq4 (by first | exact f0_0_3 | exact keepA f0_0_3 | exact keepA (keepA f0_0_3) | exact keepA (keepA (keepA f0_0_3)))
  have f0_1_4 : w4.cell? ⟨w.heap.size, 1, none⟩ = some (.int .i64 s0.x) := keep1 hq4 (by first | exact f0_1_3 | exact keepA f0_1_3 | exact keepA (keepA f0_1_3) | exact keepA (keepA (keepA f0_1_3)))
  have f0_2_4 : w4.cell? ⟨w.heap.size, 2, none⟩ = some (.int .i64 s0.y) := keep1 hq4 (by first | exact f0_2_3 | exact keepA f0_2_3 | exact keepA (keepA f0_2_3) | exact keepA (keepA (keepA f0_2_3)))
  have f0_3_4 : w4.cell? ⟨w.heap.size, 3, none⟩ = some (.slice A0 L0.length c0) := keep1 hq4 (by first | exact f0_3_3 | exact keepA f0_3_3 | exact keepA (keepA f0_3_3) | exact keepA (keepA (keepA f0_3_3)))
  have f1_0_4 : w4.cell? ⟨w3.heap.size, 0, none⟩ = some (.int .i64 (ssP p0 s0 L0)) := keep1 hq4 (by first | (simp [go_sem]; done))
  have f1_1_4 : w4.cell? ⟨w3.heap.size, 1, none⟩ = some (.int .i64 (ssS p0 s0 L0).x) := keep1 hq4 (by first | (simp [go_sem]; done))
  have f1_2_4 : w4.cell? ⟨w3.heap.size, 2, none⟩ = some (.int .i64 (ssS p0 s0 L0).y) := keep1 hq4 (by first | (simp [go_sem]; done))
  have f1_3_4 : w4.cell? ⟨w3.heap.size, 3, none⟩ = some (.slice Ar3_0 (ssV p0 s0 L0).length cr3_0) := keep1 hq4 (by first | (simp [go_sem]; done))
  have g0_4 : w.heap.size < w4.heap.size := World.block_lt_of_cell? _ _ f0_0_4
  have g1_4 : w3.heap.size < w4.heap.size := World.block_lt_of_cell? _ _ f1_0_4
  clear f0_0_3 f0_1_3 f0_2_3 f0_3_3 g0_3
  have hz4 := hq4.size
  (try simp at hz4)
  go_wp2_with fail
  refine (impl_ShortenSheet_any p0 s0 _ _ L0 _ (Mem.below (Mem.of_own ho4_0) (by (repeat (first | exact Below.refl _ _ | assumption | (refine Below.alloc ?_ (by first | omega | (simp; done) | (simp; omega)) _) | (refine Below.setCell ?_ (by first | omega | (simp; done) | (simp; omega)) _) | (refine Below.drew ?_) | (refine Below.drewN ?_ _) | (refine Below.next (by assumption) ?_ (by first | omega | (simp; done) | (simp; omega))))))) u0).mono ?_
  rintro e w5 ⟨Ar5_0, cr5_0, rfl, ho5_0, hq5⟩
  have f0_0_5 : w5.cell? ⟨w.heap.size, 0, none⟩ = some (.int .i64 p0) := keep1 hq5 (by first | exact f0_0_4 | exact keepA f0_0_4 | exact keepA (keepA f0_0_4) | exact keepA (keepA (keepA f0_0_4)))
  have f0_1_5 : w5.cell? ⟨w.heap.size, 1, none⟩ = some (.int .i64 s0.x) := keep1 hq5 (by first | exact f0_1_4 | exact keepA f0_1_4 | exact keepA (keepA f0_1_4) | exact keepA (keepA (keepA f0_1_4)))
  have f0_2_5 : w5.cell? ⟨w.heap.size, 2, none⟩ = some (.int .i64 s0.y) := keep1 hq5 (by first | exact f0_2_4 | exact keepA f0_2_4 | exact keepA (keepA f0_2_4) | exact keepA (keepA (keepA f0_2_4)))
  have f0_3_5 : w5.cell? ⟨w.heap.size, 3, none⟩ = some (.slice A0 L0.length c0) := keep1 hq5 (by first | exact f0_3_4 | exact keepA f0_3_4 | exact keepA (keepA f0_3_4) | exact keepA (keepA (keepA f0_3_4)))
  have f1_0_5 : w5.cell? ⟨w3.heap.size, 0, none⟩ = some (.int .i64 (ssP p0 s0 L0)) := keep1 hq5 (by first | exact f1_0_4 | exact keepA f1_0_4 | exact keepA (keepA f1_0_4) | exact keepA (keepA (keepA f1_0_4)))
  have f1_1_5 : w5.cell? ⟨w3.heap.size, 1, none⟩ = some (.int .i64 (ssS p0 s0 L0).x) := keep1 hq5 (by first | exact f1_1_4 | exact keepA f1_1_4 | exact keepA (keepA f1_1_4) | exact keepA (keepA (keepA f1_1_4)))
  have f1_2_5 : w5.cell? ⟨w3.heap.size, 2, none⟩ = some (.int .i64 (ssS p0 s0 L0).y) := keep1 hq5 (by first | exact f1_2_4 | exact keepA f1_2_4 | exact keepA (keepA f1_2_4) | exact keepA (keepA (keepA f1_2_4)))
  have f1_3_5 : w5.cell? ⟨w3.heap.size, 3, none⟩ = some (.slice Ar3_0 (ssV p0 s0 L0).length cr3_0) := keep1 hq5 (by first | exact f1_3_4 | exact keepA f1_3_4 | exact keepA (keepA f1_3_4) | exact keepA (keepA (keepA f1_3_4)))
  have f2_0_5 : w5.cell? ⟨w4.heap.size, 0, none⟩ = some (.int .i64 p0) := keep1 hq5 (by first | (simp [go_sem]; done))
  have f2_1_5 : w5.cell? ⟨w4.heap.size, 1, none⟩ = some (.int .i64 s0.x) := keep1 hq5 (by first | (simp [go_sem]; done))
  have f2_2_5 : w5.cell? ⟨w4.heap.size, 2, none⟩ = some (.int .i64 s0.y) := keep1 hq5 (by first | (simp [go_sem]; done))
  have f2_3_5 : w5.cell? ⟨w4.heap.size, 3, none⟩ = some (.slice Ar4_0 L0.length cr4_0) := keep1 hq5 (by first | (simp [go_sem]; done))
  have g0_5 : w.heap.size < w5.heap.size := World.block_lt_of_cell? _ _ f0_0_5
  have g1_5 : w3.heap.size < w5.heap.size := World.block_lt_of_cell? _ _ f1_0_5
  have g2_5 : w4.heap.size < w5.heap.size := World.block_lt_of_cell? _ _ f2_0_5
  clear f0_0_4 f0_1_4 f0_2_4 f0_3_4 f1_0_4 f1_1_4 f1_2_4 f1_3_4 g0_4 g1_4
  have hz5 := hq5.size
  (try simp at hz5)
  go_wp2_with fail
  refine (eqSheet_any (ssP p0 s0 L0) (ssP p0 s0 L0) (ssS p0 s0 L0) (ssS p0 s0 L0) _ _ _ _ (ssV p0 s0 L0) (ssV p0 s0 L0) _ (Mem.below (Mem.of_own ho5_0) (by (repeat (first | exact Below.refl _ _ | assumption | (refine Below.alloc ?_ (by first | omega | (simp; done) | (simp; omega)) _) | (refine Below.setCell ?_ (by first | omega | (simp; done) | (simp; omega)) _) | (refine Below.drew ?_) | (refine Below.drewN ?_ _) | (refine Below.next (by assumption) ?_ (by first | omega | (simp; done) | (simp; omega))))))) (Mem.below (Mem.of_own ho3_0) (by (repeat (first | exact Below.refl _ _ | assumption | (refine Below.alloc ?_ (by first | omega | (simp; done) | (simp; omega)) _) | (refine Below.setCell ?_ (by first | omega | (simp; done) | (simp; omega)) _) | (refine Below.drew ?_) | (refine Below.drewN ?_ _) | (refine Below.next (by assumption) ?_ (by first | omega | (simp; done) | (simp; omega))))))) (by first | omega | exact hV0) (by first | omega | exact hV0)).mono ?_
  rintro e w6 ⟨he, hq6⟩
  rw [shEq_same] at he
  subst he
  have f0_0_6 : w6.cell? ⟨w.heap.size, 0, none⟩ = some (.int .i64 p0) := keep1 hq6 (by first | exact f0_0_5 | exact keepA f0_0_5 | exact keepA (keepA f0_0_5) | exact keepA (keepA (keepA f0_0_5)))
  have f0_1_6 : w6.cell? ⟨w.heap.size, 1, none⟩ = some (.int .i64 s0.x) := keep1 hq6 (by first | exact f0_1_5 | exact keepA f0_1_5 | exact keepA (keepA f0_1_5) | exact keepA (keepA (keepA f0_1_5)))
  have f0_2_6 : w6.cell? ⟨w.heap.size, 2, none⟩ = some (.int .i64 s0.y) := keep1 hq6 (by first | exact f0_2_5 | exact keepA f0_2_5 | exact keepA (keepA f0_2_5) | exact keepA (keepA (keepA f0_2_5)))
  have f0_3_6 : w6.cell? ⟨w.heap.size, 3, none⟩ = some (.slice A0 L0.length c0) := keep1 hq6 (by first | exact f0_3_5 | exact keepA f0_3_5 | exact keepA (keepA f0_3_5) | exact keepA (keepA (keepA f0_3_5)))
  have f1_0_6 : w6.cell? ⟨w3.heap.size, 0, none⟩ = some (.int .i64 (ssP p0 s0 L0)) := keep1 hq6 (by first | exact f1_0_5 | exact keepA f1_0_5 | exact keepA (keepA f1_0_5) | exact keepA (keepA (keepA f1_0_5)))
  have f1_1_6 : w6.cell? ⟨w3.heap.size, 1, none⟩ = some (.int .i64 (ssS p0 s0 L0).x) := keep1 hq6 (by first | exact f1_1_5 | exact keepA f1_1_5 | exact keepA (keepA f1_1_5) | exact keepA (keepA (keepA f1_1_5)))
  have f1_2_6 : w6.cell? ⟨w3.heap.size, 2, none⟩ = some (.int .i64 (ssS p0 s0 L0).y) := keep1 hq6 (by first | exact f1_2_5 | exact keepA f1_2_5 | exact keepA (keepA f1_2_5) | exact keepA (keepA (keepA f1_2_5)))
  have f1_3_6 : w6.cell? ⟨w3.heap.size, 3, none⟩ = some (.slice Ar3_0 (ssV p0 s0 L0).length cr3_0) := keep1 hq6 (by first | exact f1_3_5 | exact keepA f1_3_5 | exact keepA (keepA f1_3_5) | exact keepA (keepA (keepA f1_3_5)))
  have f2_0_6 : w6.cell? ⟨w4.heap.size, 0, none⟩ = some (.int .i64 p0) := keep1 hq6 (by first | exact f2_0_5 | exact keepA f2_0_5 | exact keepA (keepA f2_0_5) | exact keepA (keepA (keepA f2_0_5)))
  have f2_1_6 : w6.cell? ⟨w4.heap.size, 1, none⟩ = some (.int .i64 s0.x) := keep1 hq6 (by first | exact f2_1_5 | exact keepA f2_1_5 | exact keepA (keepA f2_1_5) | exact keepA (keepA (keepA f2_1_5)))
  have f2_2_6 : w6.cell? ⟨w4.heap.size, 2, none⟩ = some (.int .i64 s0.y) := keep1 hq6 (by first | exact f2_2_5 | exact keepA f2_2_5 | exact keepA (keepA f2_2_5) | exact keepA (keepA (keepA f2_2_5)))
  have f2_3_6 : w6.cell? ⟨w4.heap.size, 3, none⟩ = some (.slice Ar4_0 L0.length cr4_0) := keep1 hq6 (by first | exact f2_3_5 | exact keepA f2_3_5 | exact keepA (keepA f2_3_5) | exact keepA (keepA (keepA f2_3_5)))
  have f3_0_6 : w6.cell? ⟨w5.heap.size, 0, none⟩ = some (.int .i64 (ssP p0 s0 L0)) := keep1 hq6 (by first | (simp [go_sem]; done))
  have f3_1_6 : w6.cell? ⟨w5.heap.size, 1, none⟩ = some (.int .i64 (ssS p0 s0 L0).x) := keep1 hq6 (by first | (simp [go_sem]; done))
  have f3_2_6 : w6.cell? ⟨w5.heap.size, 2, none⟩ = some (.int .i64 (ssS p0 s0 L0).y) := keep1 hq6 (by first | (simp [go_sem]; done))
  have f3_3_6 : w6.cell? ⟨w5.heap.size, 3, none⟩ = some (.slice Ar5_0 (ssV p0 s0 L0).length cr5_0) := keep1 hq6 (by first | (simp [go_sem]; done))
  have g0_6 : w.heap.size < w6.heap.size := World.block_lt_of_cell? _ _ f0_0_6
  have g1_6 : w3.heap.size < w6.heap.size := World.block_lt_of_cell? _ _ f1_0_6
  have g2_6 : w4.heap.size < w6.heap.size := World.block_lt_of_cell? _ _ f2_0_6
  have g3_6 : w5.heap.size < w6.heap.size := World.block_lt_of_cell? _ _ f3_0_6
  clear f0_0_5 f0_1_5 f0_2_5 f0_3_5 f1_0_5 f1_1_5 f1_2_5 f1_3_5 f2_0_5 f2_1_5 f2_2_5 f2_3_5 g0_5 g1_5 g2_5
  have hz6 := hq6.size
  (try simp at hz6)
  go_wp2_with fail
  go_region_held3 (fun w' => w'.cell? ⟨w.heap.size, 0, none⟩ = some (.int .i64 p0) ∧ w'.cell? ⟨w.heap.size, 1, none⟩ = some (.int .i64 s0.x) ∧ w'.cell? ⟨w.heap.size, 2, none⟩ = some (.int .i64 s0.y) ∧ w'.cell? ⟨w.heap.size, 3, none⟩ = some (.slice A0 L0.length c0) ∧ w'.cell? ⟨w3.heap.size, 0, none⟩ = some (.int .i64 (ssP p0 s0 L0)) ∧ w'.cell? ⟨w3.heap.size, 1, none⟩ = some (.int .i64 (ssS p0 s0 L0).x) ∧ w'.cell? ⟨w3.heap.size, 2, none⟩ = some (.int .i64 (ssS p0 s0 L0).y) ∧ w'.cell? ⟨w3.heap.size, 3, none⟩ = some (.slice Ar3_0 (ssV p0 s0 L0).length cr3_0) ∧ w'.cell? ⟨w4.heap.size, 0, none⟩ = some (.int .i64 p0) ∧ w'.cell? ⟨w4.heap.size, 1, none⟩ = some (.int .i64 s0.x) ∧ w'.cell? ⟨w4.heap.size, 2, none⟩ = some (.int .i64 s0.y) ∧ w'.cell? ⟨w4.heap.size, 3, none⟩ = some (.slice Ar4_0 L0.length cr4_0) ∧ w'.cell? ⟨w5.heap.size, 0, none⟩ = some (.int .i64 (ssP p0 s0 L0)) ∧ w'.cell? ⟨w5.heap.size, 1, none⟩ = some (.int .i64 (ssS p0 s0 L0).x) ∧ w'.cell? ⟨w5.heap.size, 2, none⟩ = some (.int .i64 (ssS p0 s0 L0).y) ∧ w'.cell? ⟨w5.heap.size, 3, none⟩ = some (.slice Ar5_0 (ssV p0 s0 L0).length cr5_0)) (first | assumption | exact ⟨f0_0_6, f0_1_6, f0_2_6, f0_3_6, f1_0_6, f1_1_6, f1_2_6, f1_3_6, f2_0_6, f2_1_6, f2_2_6, f2_3_6, f3_0_6, f3_1_6, f3_2_6, f3_3_6⟩ | exact ⟨(keepA f0_0_6), (keepA f0_1_6), (keepA f0_2_6), (keepA f0_3_6), (keepA f1_0_6), (keepA f1_1_6), (keepA f1_2_6), (keepA f1_3_6), (keepA f2_0_6), (keepA f2_1_6), (keepA f2_2_6), (keepA f2_3_6), (keepA f3_0_6), (keepA f3_1_6), (keepA f3_2_6), (keepA f3_3_6)⟩ | exact ⟨(keepA (keepA f0_0_6)), (keepA (keepA f0_1_6)), (keepA (keepA f0_2_6)), (keepA (keepA f0_3_6)), (keepA (keepA f1_0_6)), (keepA (keepA f1_1_6)), (keepA (keepA f1_2_6)), (keepA (keepA f1_3_6)), (keepA (keepA f2_0_6)), (keepA (keepA f2_1_6)), (keepA (keepA f2_2_6)), (keepA (keepA f2_3_6)), (keepA (keepA f3_0_6)), (keepA (keepA f3_1_6)), (keepA (keepA f3_2_6)), (keepA (keepA f3_3_6))⟩) (first | (go_at_call 8; (with_reducible refine (toSheet_any p0 s0 _ _ L0 _ (m0.below (by (repeat (first | exact Below.refl _ _ | assumption | (refine Below.alloc ?_ (by first | omega | (simp; done) | (simp; omega)) _) | (refine Below.setCell ?_ (by first | omega | (simp; done) | (simp; omega)) _) | (refine Below.drew ?_) | (refine Below.drewN ?_ _) | (refine Below.next (by assumption) ?_ (by first | omega | (simp; done) | (simp; omega))))))) (by omega)).mono ?_); rintro e w7 ⟨Ar7_0, cr7_0, rfl, ho7_0, hq7⟩; have hz7 := hq7.size; (try simp at hz7); have hS7 := keepN16 hq7 (by assumption)) | (go_at_call 10; (with_reducible refine (eqSheet_any p0 p0 s0 s0 _ _ _ _ L0 L0 _ (Mem.below (Mem.of_own ho4_0) (by (repeat (first | exact Below.refl _ _ | assumption | (refine Below.alloc ?_ (by first | omega | (simp; done) | (simp; omega)) _) | (refine Below.setCell ?_ (by first | omega | (simp; done) | (simp; omega)) _) | (refine Below.drew ?_) | (refine Below.drewN ?_ _) | (refine Below.next (by assumption) ?_ (by first | omega | (simp; done) | (simp; omega))))))) (Mem.below (Mem.of_own ho7_0) (by (repeat (first | exact Below.refl _ _ | assumption | (refine Below.alloc ?_ (by first | omega | (simp; done) | (simp; omega)) _) | (refine Below.setCell ?_ (by first | omega | (simp; done) | (simp; omega)) _) | (refine Below.drew ?_) | (refine Below.drewN ?_ _) | (refine Below.next (by assumption) ?_ (by first | omega | (simp; done) | (simp; omega))))))) (by omega) (by omega)).mono ?_); rintro e w8 ⟨he, hq8⟩; rw [shEq_same] at he; subst he; have hz8 := hq8.size; (try simp at hz8); have hS8 := keepN16 hq8 (by assumption)))
  obtain ⟨f0_0_8, f0_1_8, f0_2_8, f0_3_8, f1_0_8, f1_1_8, f1_2_8, f1_3_8, f2_0_8, f2_1_8, f2_2_8, f2_3_8, f3_0_8, f3_1_8, f3_2_8, f3_3_8⟩ := hS8
  clear f0_0_6 f0_1_6 f0_2_6 f0_3_6 f1_0_6 f1_1_6 f1_2_6 f1_3_6 f2_0_6 f2_1_6 f2_2_6 f2_3_6 f3_0_6 f3_1_6 f3_2_6 f3_3_6 hS7
  have g0_8 : w.heap.size < w8.heap.size := World.block_lt_of_cell? _ _ f0_0_8
  have g1_8 : w3.heap.size < w8.heap.size := World.block_lt_of_cell? _ _ f1_0_8
  have g2_8 : w4.heap.size < w8.heap.size := World.block_lt_of_cell? _ _ f2_0_8
  have g3_8 : w5.heap.size < w8.heap.size := World.block_lt_of_cell? _ _ f3_0_8
  clear g0_6 g1_6 g2_6 g3_6
  go_wp2_with fail
  have hp4_0 := own_below (w' := w8) ho4_0 (by (repeat (first | exact Below.refl _ _ | assumption | (refine Below.alloc ?_ (by first | omega | (simp; done) | (simp; omega)) _) | (refine Below.setCell ?_ (by first | omega | (simp; done) | (simp; omega)) _) | (refine Below.drew ?_) | (refine Below.drewN ?_ _) | (refine Below.next (by assumption) ?_ (by first | omega | (simp; done) | (simp; omega))))))
  have hp3_0 := own_below (w' := w8) ho3_0 (by (repeat (first | exact Below.refl _ _ | assumption | (refine Below.alloc ?_ (by first | omega | (simp; done) | (simp; omega)) _) | (refine Below.setCell ?_ (by first | omega | (simp; done) | (simp; omega)) _) | (refine Below.drew ?_) | (refine Below.drewN ?_ _) | (refine Below.next (by assumption) ?_ (by first | omega | (simp; done) | (simp; omega))))))
  have hp5_0 := own_below (w' := w8) ho5_0 (by (repeat (first | exact Below.refl _ _ | assumption | (refine Below.alloc ?_ (by first | omega | (simp; done) | (simp; omega)) _) | (refine Below.setCell ?_ (by first | omega | (simp; done) | (simp; omega)) _) | (refine Below.drew ?_) | (refine Below.drewN ?_ _) | (refine Below.next (by assumption) ?_ (by first | omega | (simp; done) | (simp; omega))))))
  refine (markSheet_any p0 s0 _ _ _ L0 1 _ hp4_0 (by first | omega | exact hV0) (by omega) (by omega) (by (try simp); omega)).mono ?_
  rintro e w9 ⟨rfl, hm9, hg9⟩
  have hk3_0_9 := own_kept hp3_0 hg9 (fun k hk j hj => by have a1 := ho4_0.lt k hk; have a2 := ho3_0.lt j hj; (try simp at a1); (try simp at a2); omega)
  have hk5_0_9 := own_kept hp5_0 hg9 (fun k hk j hj => by have a1 := ho4_0.lt k hk; have a2 := ho5_0.lt j hj; (try simp at a1); (try simp at a2); omega)
  have hB9 : Below w.heap.size w w9 := below_grown (by (repeat (first | exact Below.refl _ _ | assumption | (refine Below.alloc ?_ (by first | omega | (simp; done) | (simp; omega)) _) | (refine Below.setCell ?_ (by first | omega | (simp; done) | (simp; omega)) _) | (refine Below.drew ?_) | (refine Below.drewN ?_ _) | (refine Below.next (by assumption) ?_ (by first | omega | (simp; done) | (simp; omega)))))) hg9 (by first | omega | (simp; omega)) (fun k hk => by have a1 := ho4_0.lt k hk; (try simp at a1); (try dsimp only); omega)
  have f0_0_9 : w9.cell? ⟨w.heap.size, 0, none⟩ = some (.int .i64 p0) := keepG hg9 (by first | exact f0_0_8 | exact keepA f0_0_8 | exact keepA (keepA f0_0_8) | exact keepA (keepA (keepA f0_0_8))) (fun k hk => by have a1 := ho4_0.lt k hk; (try simp at a1); (try dsimp only); omega)
  have f0_1_9 : w9.cell? ⟨w.heap.size, 1, none⟩ = some (.int .i64 s0.x) := keepG hg9 (by first | exact f0_1_8 | exact keepA f0_1_8 | exact keepA (keepA f0_1_8) | exact keepA (keepA (keepA f0_1_8))) (fun k hk => by have a1 := ho4_0.lt k hk; (try simp at a1); (try dsimp only); omega)
  have f0_2_9 : w9.cell? ⟨w.heap.size, 2, none⟩ = some (.int .i64 s0.y) := keepG hg9 (by first | exact f0_2_8 | exact keepA f0_2_8 | exact keepA (keepA f0_2_8) | exact keepA (keepA (keepA f0_2_8))) (fun k hk => by have a1 := ho4_0.lt k hk; (try simp at a1); (try dsimp only); omega)
  have f0_3_9 : w9.cell? ⟨w.heap.size, 3, none⟩ = some (.slice A0 L0.length c0) := keepG hg9 (by first | exact f0_3_8 | exact keepA f0_3_8 | exact keepA (keepA f0_3_8) | exact keepA (keepA (keepA f0_3_8))) (fun k hk => by have a1 := ho4_0.lt k hk; (try simp at a1); (try dsimp only); omega)
  have f1_0_9 : w9.cell? ⟨w3.heap.size, 0, none⟩ = some (.int .i64 (ssP p0 s0 L0)) := keepG hg9 (by first | exact f1_0_8 | exact keepA f1_0_8 | exact keepA (keepA f1_0_8) | exact keepA (keepA (keepA f1_0_8))) (fun k hk => by have a1 := ho4_0.lt k hk; (try simp at a1); (try dsimp only); omega)
  have f1_1_9 : w9.cell? ⟨w3.heap.size, 1, none⟩ = some (.int .i64 (ssS p0 s0 L0).x) := keepG hg9 (by first | exact f1_1_8 | exact keepA f1_1_8 | exact keepA (keepA f1_1_8) | exact keepA (keepA (keepA f1_1_8))) (fun k hk => by have a1 := ho4_0.lt k hk; (try simp at a1); (try dsimp only); omega)
  have f1_2_9 : w9.cell? ⟨w3.heap.size, 2, none⟩ = some (.int .i64 (ssS p0 s0 L0).y) := keepG hg9 (by first | exact f1_2_8 | exact keepA f1_2_8 | exact keepA (keepA f1_2_8) | exact keepA (keepA (keepA f1_2_8))) (fun k hk => by have a1 := ho4_0.lt k hk; (try simp at a1); (try dsimp only); omega)
  have f1_3_9 : w9.cell? ⟨w3.heap.size, 3, none⟩ = some (.slice Ar3_0 (ssV p0 s0 L0).length cr3_0) := keepG hg9 (by first | exact f1_3_8 | exact keepA f1_3_8 | exact keepA (keepA f1_3_8) | exact keepA (keepA (keepA f1_3_8))) (fun k hk => by have a1 := ho4_0.lt k hk; (try simp at a1); (try dsimp only); omega)
  have f2_0_9 : w9.cell? ⟨w4.heap.size, 0, none⟩ = some (.int .i64 p0) := keepG hg9 (by first | exact f2_0_8 | exact keepA f2_0_8 | exact keepA (keepA f2_0_8) | exact keepA (keepA (keepA f2_0_8))) (fun k hk => by have a1 := ho4_0.lt k hk; (try simp at a1); (try dsimp only); omega)
  have f2_1_9 : w9.cell? ⟨w4.heap.size, 1, none⟩ = some (.int .i64 s0.x) := keepG hg9 (by first | exact f2_1_8 | exact keepA f2_1_8 | exact keepA (keepA f2_1_8) | exact keepA (keepA (keepA f2_1_8))) (fun k hk => by have a1 := ho4_0.lt k hk; (try simp at a1); (try dsimp only); omega)
  have f2_2_9 : w9.cell? ⟨w4.heap.size, 2, none⟩ = some (.int .i64 s0.y) := keepG hg9 (by first | exact f2_2_8 | exact keepA f2_2_8 | exact keepA (keepA f2_2_8) | exact keepA (keepA (keepA f2_2_8))) (fun k hk => by have a1 := ho4_0.lt k hk; (try simp at a1); (try dsimp only); omega)
  have f2_3_9 : w9.cell? ⟨w4.heap.size, 3, none⟩ = some (.slice Ar4_0 L0.length cr4_0) := keepG hg9 (by first | exact f2_3_8 | exact keepA f2_3_8 | exact keepA (keepA f2_3_8) | exact keepA (keepA (keepA f2_3_8))) (fun k hk => by have a1 := ho4_0.lt k hk; (try simp at a1); (try dsimp only); omega)
  have f3_0_9 : w9.cell? ⟨w5.heap.size, 0, none⟩ = some (.int .i64 (ssP p0 s0 L0)) := keepG hg9 (by first | exact f3_0_8 | exact keepA f3_0_8 | exact keepA (keepA f3_0_8) | exact keepA (keepA (keepA f3_0_8))) (fun k hk => by have a1 := ho4_0.lt k hk; (try simp at a1); (try dsimp only); omega)
  have f3_1_9 : w9.cell? ⟨w5.heap.size, 1, none⟩ = some (.int .i64 (ssS p0 s0 L0).x) := keepG hg9 (by first | exact f3_1_8 | exact keepA f3_1_8 | exact keepA (keepA f3_1_8) | exact keepA (keepA (keepA f3_1_8))) (fun k hk => by have a1 := ho4_0.lt k hk; (try simp at a1); (try dsimp only); omega)
  have f3_2_9 : w9.cell? ⟨w5.heap.size, 2, none⟩ = some (.int .i64 (ssS p0 s0 L0).y) := keepG hg9 (by first | exact f3_2_8 | exact keepA f3_2_8 | exact keepA (keepA f3_2_8) | exact keepA (keepA (keepA f3_2_8))) (fun k hk => by have a1 := ho4_0.lt k hk; (try simp at a1); (try dsimp only); omega)
  have f3_3_9 : w9.cell? ⟨w5.heap.size, 3, none⟩ = some (.slice Ar5_0 (ssV p0 s0 L0).length cr5_0) := keepG hg9 (by first | exact f3_3_8 | exact keepA f3_3_8 | exact keepA (keepA f3_3_8) | exact keepA (keepA (keepA f3_3_8))) (fun k hk => by have a1 := ho4_0.lt k hk; (try simp at a1); (try dsimp only); omega)
  have g0_9 : w.heap.size < w9.heap.size := World.block_lt_of_cell? _ _ f0_0_9
  have g1_9 : w3.heap.size < w9.heap.size := World.block_lt_of_cell? _ _ f1_0_9
  have g2_9 : w4.heap.size < w9.heap.size := World.block_lt_of_cell? _ _ f2_0_9
  have g3_9 : w5.heap.size < w9.heap.size := World.block_lt_of_cell? _ _ f3_0_9
  clear f0_0_8 f0_1_8 f0_2_8 f0_3_8 f1_0_8 f1_1_8 f1_2_8 f1_3_8 f2_0_8 f2_1_8 f2_2_8 f2_3_8 f3_0_8 f3_1_8 f3_2_8 f3_3_8 g0_8 g1_8 g2_8 g3_8
  have hz9 := hg9.size
  (try simp at hz9)
  clear hp4_0 hp3_0 hp5_0
  go_wp2_with fail
  refine (eqSheet_any (ssP p0 s0 L0) (ssP p0 s0 L0) (ssS p0 s0 L0) (ssS p0 s0 L0) _ _ _ _ (ssV p0 s0 L0) (ssV p0 s0 L0) _ (Mem.below (Mem.of_own hk5_0_9) (by (repeat (first | exact Below.refl _ _ | assumption | (refine Below.alloc ?_ (by first | omega | (simp; done) | (simp; omega)) _) | (refine Below.setCell ?_ (by first | omega | (simp; done) | (simp; omega)) _) | (refine Below.drew ?_) | (refine Below.drewN ?_ _) | (refine Below.next (by assumption) ?_ (by first | omega | (simp; done) | (simp; omega))))))) (Mem.below (Mem.of_own hk3_0_9) (by (repeat (first | exact Below.refl _ _ | assumption | (refine Below.alloc ?_ (by first | omega | (simp; done) | (simp; omega)) _) | (refine Below.setCell ?_ (by first | omega | (simp; done) | (simp; omega)) _) | (refine Below.drew ?_) | (refine Below.drewN ?_ _) | (refine Below.next (by assumption) ?_ (by first | omega | (simp; done) | (simp; omega))))))) (by first | omega | exact hV0) (by first | omega | exact hV0)).mono ?_
  rintro e w10 ⟨he, hq10⟩
  rw [shEq_same] at he
  subst he
  have f0_0_10 : w10.cell? ⟨w.heap.size, 0, none⟩ = some (.int .i64 p0) := keep1 hq10 (by first | exact f0_0_9 | exact keepA f0_0_9 | exact keepA (keepA f0_0_9) | exact keepA (keepA (keepA f0_0_9)))
  have f0_1_10 : w10.cell? ⟨w.heap.size, 1, none⟩ = some (.int .i64 s0.x) := keep1 hq10 (by first | exact f0_1_9 | exact keepA f0_1_9 | exact keepA (keepA f0_1_9) | exact keepA (keepA (keepA f0_1_9)))
  have f0_2_10 : w10.cell? ⟨w.heap.size, 2, none⟩ = some (.int .i64 s0.y) := keep1 hq10 (by first | exact f0_2_9 | exact keepA f0_2_9 | exact keepA (keepA f0_2_9) | exact keepA (keepA (keepA f0_2_9)))
  have f0_3_10 : w10.cell? ⟨w.heap.size, 3, none⟩ = some (.slice A0 L0.length c0) := keep1 hq10 (by first | exact f0_3_9 | exact keepA f0_3_9 | exact keepA (keepA f0_3_9) | exact keepA (keepA (keepA f0_3_9)))
  have f1_0_10 : w10.cell? ⟨w3.heap.size, 0, none⟩ = some (.int .i64 (ssP p0 s0 L0)) := keep1 hq10 (by first | exact f1_0_9 | exact keepA f1_0_9 | exact keepA (keepA f1_0_9) | exact keepA (keepA (keepA f1_0_9)))
  have f1_1_10 : w10.cell? ⟨w3.heap.size, 1, none⟩ = some (.int .i64 (ssS p0 s0 L0).x) := keep1 hq10 (by first | exact f1_1_9 | exact keepA f1_1_9 | exact keepA (keepA f1_1_9) | exact keepA (keepA (keepA f1_1_9)))
  have f1_2_10 : w10.cell? ⟨w3.heap.size, 2, none⟩ = some (.int .i64 (ssS p0 s0 L0).y) := keep1 hq10 (by first | exact f1_2_9 | exact keepA f1_2_9 | exact keepA (keepA f1_2_9) | exact keepA (keepA (keepA f1_2_9)))
  have f1_3_10 : w10.cell? ⟨w3.heap.size, 3, none⟩ = some (.slice Ar3_0 (ssV p0 s0 L0).length cr3_0) := keep1 hq10 (by first | exact f1_3_9 | exact keepA f1_3_9 | exact keepA (keepA f1_3_9) | exact keepA (keepA (keepA f1_3_9)))
  have f2_0_10 : w10.cell? ⟨w4.heap.size, 0, none⟩ = some (.int .i64 p0) := keep1 hq10 (by first | exact f2_0_9 | exact keepA f2_0_9 | exact keepA (keepA f2_0_9) | exact keepA (keepA (keepA f2_0_9)))
  have f2_1_10 : w10.cell? ⟨w4.heap.size, 1, none⟩ = some (.int .i64 s0.x) := keep1 hq10 (by first | exact f2_1_9 | exact keepA f2_1_9 | exact keepA (keepA f2_1_9) | exact keepA (keepA (keepA f2_1_9)))
  have f2_2_10 : w10.cell? ⟨w4.heap.size, 2, none⟩ = some (.int .i64 s0.y) := keep1 hq10 (by first | exact f2_2_9 | exact keepA f2_2_9 | exact keepA (keepA f2_2_9) | exact keepA (keepA (keepA f2_2_9)))
  have f2_3_10 : w10.cell? ⟨w4.heap.size, 3, none⟩ = some (.slice Ar4_0 L0.length cr4_0) := keep1 hq10 (by first | exact f2_3_9 | exact keepA f2_3_9 | exact keepA (keepA f2_3_9) | exact keepA (keepA (keepA f2_3_9)))
  have f3_0_10 : w10.cell? ⟨w5.heap.size, 0, none⟩ = some (.int .i64 (ssP p0 s0 L0)) := keep1 hq10 (by first | exact f3_0_9 | exact keepA f3_0_9 | exact keepA (keepA f3_0_9) | exact keepA (keepA (keepA f3_0_9)))
  have f3_1_10 : w10.cell? ⟨w5.heap.size, 1, none⟩ = some (.int .i64 (ssS p0 s0 L0).x) := keep1 hq10 (by first | exact f3_1_9 | exact keepA f3_1_9 | exact keepA (keepA f3_1_9) | exact keepA (keepA (keepA f3_1_9)))
  have f3_2_10 : w10.cell? ⟨w5.heap.size, 2, none⟩ = some (.int .i64 (ssS p0 s0 L0).y) := keep1 hq10 (by first | exact f3_2_9 | exact keepA f3_2_9 | exact keepA (keepA f3_2_9) | exact keepA (keepA (keepA f3_2_9)))
  have f3_3_10 : w10.cell? ⟨w5.heap.size, 3, none⟩ = some (.slice Ar5_0 (ssV p0 s0 L0).length cr5_0) := keep1 hq10 (by first | exact f3_3_9 | exact keepA f3_3_9 | exact keepA (keepA f3_3_9) | exact keepA (keepA (keepA f3_3_9)))
  have g0_10 : w.heap.size < w10.heap.size := World.block_lt_of_cell? _ _ f0_0_10
  have g1_10 : w3.heap.size < w10.heap.size := World.block_lt_of_cell? _ _ f1_0_10
  have g2_10 : w4.heap.size < w10.heap.size := World.block_lt_of_cell? _ _ f2_0_10
  have g3_10 : w5.heap.size < w10.heap.size := World.block_lt_of_cell? _ _ f3_0_10
  clear f0_0_9 f0_1_9 f0_2_9 f0_3_9 f1_0_9 f1_1_9 f1_2_9 f1_3_9 f2_0_9 f2_1_9 f2_2_9 f2_3_9 f3_0_9 f3_1_9 f3_2_9 f3_3_9 g0_9 g1_9 g2_9 g3_9
  have hz10 := hq10.size
  (try simp at hz10)
  go_wp2_with fail
  have hp5_0 := own_below (w' := w10) hk5_0_9 (by (repeat (first | exact Below.refl _ _ | assumption | (refine Below.alloc ?_ (by first | omega | (simp; done) | (simp; omega)) _) | (refine Below.setCell ?_ (by first | omega | (simp; done) | (simp; omega)) _) | (refine Below.drew ?_) | (refine Below.drewN ?_ _) | (refine Below.next (by assumption) ?_ (by first | omega | (simp; done) | (simp; omega))))))
  have hp3_0 := own_below (w' := w10) hk3_0_9 (by (repeat (first | exact Below.refl _ _ | assumption | (refine Below.alloc ?_ (by first | omega | (simp; done) | (simp; omega)) _) | (refine Below.setCell ?_ (by first | omega | (simp; done) | (simp; omega)) _) | (refine Below.drew ?_) | (refine Below.drewN ?_ _) | (refine Below.next (by assumption) ?_ (by first | omega | (simp; done) | (simp; omega))))))
  refine (markSheet_any (ssP p0 s0 L0) (ssS p0 s0 L0) _ _ _ (ssV p0 s0 L0) 1 _ hp5_0 (by first | omega | exact hV0) (by omega) (by omega) (by (try simp); omega)).mono ?_
  rintro e w11 ⟨rfl, hm11, hg11⟩
  have hk3_0_11 := own_kept hp3_0 hg11 (fun k hk j hj => by have a1 := ho5_0.lt k hk; have a2 := ho3_0.lt j hj; (try simp at a1); (try simp at a2); omega)
  have hB11 : Below w.heap.size w w11 := below_grown (by (repeat (first | exact Below.refl _ _ | assumption | (refine Below.alloc ?_ (by first | omega | (simp; done) | (simp; omega)) _) | (refine Below.setCell ?_ (by first | omega | (simp; done) | (simp; omega)) _) | (refine Below.drew ?_) | (refine Below.drewN ?_ _) | (refine Below.next (by assumption) ?_ (by first | omega | (simp; done) | (simp; omega)))))) hg11 (by first | omega | (simp; omega)) (fun k hk => by have a1 := ho5_0.lt k hk; (try simp at a1); (try dsimp only); omega)
  have f0_0_11 : w11.cell? ⟨w.heap.size, 0, none⟩ = some (.int .i64 p0) := keepG hg11 (by first | exact f0_0_10 | exact keepA f0_0_10 | exact keepA (keepA f0_0_10) | exact keepA (keepA (keepA f0_0_10))) (fun k hk => by have a1 := ho5_0.lt k hk; (try simp at a1); (try dsimp only); omega)
  have f0_1_11 : w11.cell? ⟨w.heap.size, 1, none⟩ = some (.int .i64 s0.x) := keepG hg11 (by first | exact f0_1_10 | exact keepA f0_1_10 | exact keepA (keepA f0_1_10) | exact keepA (keepA (keepA f0_1_10))) (fun k hk => by have a1 := ho5_0.lt k hk; (try simp at a1); (try dsimp only); omega)
  have f0_2_11 : w11.cell? ⟨w.heap.size, 2, none⟩ = some (.int .i64 s0.y) := keepG hg11 (by first | exact f0_2_10 | exact keepA f0_2_10 | exact keepA (keepA f0_2_10) | exact keepA (keepA (keepA f0_2_10))) (fun k hk => by have a1 := ho5_0.lt k hk; (try simp at a1); (try dsimp only); omega)
  have f0_3_11 : w11.cell? ⟨w.heap.size, 3, none⟩ = some (.slice A0 L0.length c0) := keepG hg11 (by first | exact f0_3_10 | exact keepA f0_3_10 | exact keepA (keepA f0_3_10) | exact keepA (keepA (keepA f0_3_10))) (fun k hk => by have a1 := ho5_0.lt k hk; (try simp at a1); (try dsimp only); omega)
  have f1_0_11 : w11.cell? ⟨w3.heap.size, 0, none⟩ = some (.int .i64 (ssP p0 s0 L0)) := keepG hg11 (by first | exact f1_0_10 | exact keepA f1_0_10 | exact keepA (keepA f1_0_10) | exact keepA (keepA (keepA f1_0_10))) (fun k hk => by have a1 := ho5_0.lt k hk; (try simp at a1); (try dsimp only); omega)
  have f1_1_11 : w11.cell? ⟨w3.heap.size, 1, none⟩ = some (.int .i64 (ssS p0 s0 L0).x) := keepG hg11 (by first | exact f1_1_10 | exact keepA f1_1_10 | exact keepA (keepA f1_1_10) | exact keepA (keepA (keepA f1_1_10))) (fun k hk => by have a1 := ho5_0.lt k hk; (try simp at a1); (try dsimp only); omega)
  have f1_2_11 : w11.cell? ⟨w3.heap.size, 2, none⟩ = some (.int .i64 (ssS p0 s0 L0).y) := keepG hg11 (by first | exact f1_2_10 | exact keepA f1_2_10 | exact keepA (keepA f1_2_10) | exact keepA (keepA (keepA f1_2_10))) (fun k hk => by have a1 := ho5_0.lt k hk; (try simp at a1); (try dsimp only); omega)
  have f1_3_11 : w11.cell? ⟨w3.heap.size, 3, none⟩ = some (.slice Ar3_0 (ssV p0 s0 L0).length cr3_0) := keepG hg11 (by first | exact f1_3_10 | exact keepA f1_3_10 | exact keepA (keepA f1_3_10) | exact keepA (keepA (keepA f1_3_10))) (fun k hk => by have a1 := ho5_0.lt k hk; (try simp at a1); (try dsimp only); omega)
  have f2_0_11 : w11.cell? ⟨w4.heap.size, 0, none⟩ = some (.int .i64 p0) := keepG hg11 (by first | exact f2_0_10 | exact keepA f2_0_10 | exact keepA (keepA f2_0_10) | exact keepA (keepA (keepA f2_0_10))) (fun k hk => by have a1 := ho5_0.lt k hk; (try simp at a1); (try dsimp only); omega)
  have f2_1_11 : w11.cell? ⟨w4.heap.size, 1, none⟩ = some (.int .i64 s0.x) := keepG hg11 (by first | exact f2_1_10 | exact keepA f2_1_10 | exact keepA (keepA f2_1_10) | exact keepA (keepA (keepA f2_1_10))) (fun k hk => by have a1 := ho5_0.lt k hk; (try simp at a1); (try dsimp only); omega)
  have f2_2_11 : w11.cell? ⟨w4.heap.size, 2, none⟩ = some (.int .i64 s0.y) := keepG hg11 (by first | exact f2_2_10 | exact keepA f2_2_10 | exact keepA (keepA f2_2_10) | exact keepA (keepA (keepA f2_2_10))) (fun k hk => by have a1 := ho5_0.lt k hk; (try simp at a1); (try dsimp only); omega)
  have f2_3_11 : w11.cell? ⟨w4.heap.size, 3, none⟩ = some (.slice Ar4_0 L0.length cr4_0) := keepG hg11 (by first | exact f2_3_10 | exact keepA f2_3_10 | exact keepA (keepA f2_3_10) | exact keepA (keepA (keepA f2_3_10))) (fun k hk => by have a1 := ho5_0.lt k hk; (try simp at a1); (try dsimp only); omega)
  have f3_0_11 : w11.cell? ⟨w5.heap.size, 0, none⟩ = some (.int .i64 (ssP p0 s0 L0)) := keepG hg11 (by first | exact f3_0_10 | exact keepA f3_0_10 | exact keepA (keepA f3_0_10) | exact keepA (keepA (keepA f3_0_10))) (fun k hk => by have a1 := ho5_0.lt k hk; (try simp at a1); (try dsimp only); omega)
  have f3_1_11 : w11.cell? ⟨w5.heap.size, 1, none⟩ = some (.int .i64 (ssS p0 s0 L0).x) := keepG hg11 (by first | exact f3_1_10 | exact keepA f3_1_10 | exact keepA (keepA f3_1_10) | exact keepA (keepA (keepA f3_1_10))) (fun k hk => by have a1 := ho5_0.lt k hk; (try simp at a1); (try dsimp only); omega)
  have f3_2_11 : w11.cell? ⟨w5.heap.size, 2, none⟩ = some (.int .i64 (ssS p0 s0 L0).y) := keepG hg11 (by first | exact f3_2_10 | exact keepA f3_2_10 | exact keepA (keepA f3_2_10) | exact keepA (keepA (keepA f3_2_10))) (fun k hk => by have a1 := ho5_0.lt k hk; (try simp at a1); (try dsimp only); omega)
  have f3_3_11 : w11.cell? ⟨w5.heap.size, 3, none⟩ = some (.slice Ar5_0 (ssV p0 s0 L0).length cr5_0) := keepG hg11 (by first | exact f3_3_10 | exact keepA f3_3_10 | exact keepA (keepA f3_3_10) | exact keepA (keepA (keepA f3_3_10))) (fun k hk => by have a1 := ho5_0.lt k hk; (try simp at a1); (try dsimp only); omega)
  have g0_11 : w.heap.size < w11.heap.size := World.block_lt_of_cell? _ _ f0_0_11
  have g1_11 : w3.heap.size < w11.heap.size := World.block_lt_of_cell? _ _ f1_0_11
  have g2_11 : w4.heap.size < w11.heap.size := World.block_lt_of_cell? _ _ f2_0_11
  have g3_11 : w5.heap.size < w11.heap.size := World.block_lt_of_cell? _ _ f3_0_11
  clear f0_0_10 f0_1_10 f0_2_10 f0_3_10 f1_0_10 f1_1_10 f1_2_10 f1_3_10 f2_0_10 f2_1_10 f2_2_10 f2_3_10 f3_0_10 f3_1_10 f3_2_10 f3_3_10 g0_10 g1_10 g2_10 g3_10
  have hz11 := hg11.size
  (try simp at hz11)
  clear hp5_0 hp3_0
  go_wp2_with fail
  refine (heldSheet_any (ssP p0 s0 L0) (ssS p0 s0 L0) _ _ _ _ _ (Mem.below (Mem.of_own hm11) (by (repeat (first | exact Below.refl _ _ | assumption | (refine Below.alloc ?_ (by first | omega | (simp; done) | (simp; omega)) _) | (refine Below.setCell ?_ (by first | omega | (simp; done) | (simp; omega)) _) | (refine Below.drew ?_) | (refine Below.drewN ?_ _) | (refine Below.next (by assumption) ?_ (by first | omega | (simp; done) | (simp; omega))))))) (by first | omega | exact hV0) (by omega) (by omega)).mono ?_
  rintro e w12 ⟨rfl, hq12⟩
  have f0_0_12 : w12.cell? ⟨w.heap.size, 0, none⟩ = some (.int .i64 p0) := keep1 hq12 (by first | exact f0_0_11 | exact keepA f0_0_11 | exact keepA (keepA f0_0_11) | exact keepA (keepA (keepA f0_0_11)))
  have f0_1_12 : w12.cell? ⟨w.heap.size, 1, none⟩ = some (.int .i64 s0.x) := keep1 hq12 (by first | exact f0_1_11 | exact keepA f0_1_11 | exact keepA (keepA f0_1_11) | exact keepA (keepA (keepA f0_1_11)))
  have f0_2_12 : w12.cell? ⟨w.heap.size, 2, none⟩ = some (.int .i64 s0.y) := keep1 hq12 (by first | exact f0_2_11 | exact keepA f0_2_11 | exact keepA (keepA f0_2_11) | exact keepA (keepA (keepA f0_2_11)))
  have f0_3_12 : w12.cell? ⟨w.heap.size, 3, none⟩ = some (.slice A0 L0.length c0) := keep1 hq12 (by first | exact f0_3_11 | exact keepA f0_3_11 | exact keepA (keepA f0_3_11) | exact keepA (keepA (keepA f0_3_11)))
  have f1_0_12 : w12.cell? ⟨w3.heap.size, 0, none⟩ = some (.int .i64 (ssP p0 s0 L0)) := keep1 hq12 (by first | exact f1_0_11 | exact keepA f1_0_11 | exact keepA (keepA f1_0_11) | exact keepA (keepA (keepA f1_0_11)))
  have f1_1_12 : w12.cell? ⟨w3.heap.size, 1, none⟩ = some (.int .i64 (ssS p0 s0 L0).x) := keep1 hq12 (by first | exact f1_1_11 | exact keepA f1_1_11 | exact keepA (keepA f1_1_11) | exact keepA (keepA (keepA f1_1_11)))
  have f1_2_12 : w12.cell? ⟨w3.heap.size, 2, none⟩ = some (.int .i64 (ssS p0 s0 L0).y) := keep1 hq12 (by first | exact f1_2_11 | exact keepA f1_2_11 | exact keepA (keepA f1_2_11) | exact keepA (keepA (keepA f1_2_11)))
  have f1_3_12 : w12.cell? ⟨w3.heap.size, 3, none⟩ = some (.slice Ar3_0 (ssV p0 s0 L0).length cr3_0) := keep1 hq12 (by first | exact f1_3_11 | exact keepA f1_3_11 | exact keepA (keepA f1_3_11) | exact keepA (keepA (keepA f1_3_11)))
  have f2_0_12 : w12.cell? ⟨w4.heap.size, 0, none⟩ = some (.int .i64 p0) := keep1 hq12 (by first | exact f2_0_11 | exact keepA f2_0_11 | exact keepA (keepA f2_0_11) | exact keepA (keepA (keepA f2_0_11)))
  have f2_1_12 : w12.cell? ⟨w4.heap.size, 1, none⟩ = some (.int .i64 s0.x) := keep1 hq12 (by first | exact f2_1_11 | exact keepA f2_1_11 | exact keepA (keepA f2_1_11) | exact keepA (keepA (keepA f2_1_11)))
  have f2_2_12 : w12.cell? ⟨w4.heap.size, 2, none⟩ = some (.int .i64 s0.y) := keep1 hq12 (by first | exact f2_2_11 | exact keepA f2_2_11 | exact keepA (keepA f2_2_11) | exact keepA (keepA (keepA f2_2_11)))
  have f2_3_12 : w12.cell? ⟨w4.heap.size, 3, none⟩ = some (.slice Ar4_0 L0.length cr4_0) := keep1 hq12 (by first | exact f2_3_11 | exact keepA f2_3_11 | exact keepA (keepA f2_3_11) | exact keepA (keepA (keepA f2_3_11)))
  have f3_0_12 : w12.cell? ⟨w5.heap.size, 0, none⟩ = some (.int .i64 (ssP p0 s0 L0)) := keep1 hq12 (by first | exact f3_0_11 | exact keepA f3_0_11 | exact keepA (keepA f3_0_11) | exact keepA (keepA (keepA f3_0_11)))
  have f3_1_12 : w12.cell? ⟨w5.heap.size, 1, none⟩ = some (.int .i64 (ssS p0 s0 L0).x) := keep1 hq12 (by first | exact f3_1_11 | exact keepA f3_1_11 | exact keepA (keepA f3_1_11) | exact keepA (keepA (keepA f3_1_11)))
  have f3_2_12 : w12.cell? ⟨w5.heap.size, 2, none⟩ = some (.int .i64 (ssS p0 s0 L0).y) := keep1 hq12 (by first | exact f3_2_11 | exact keepA f3_2_11 | exact keepA (keepA f3_2_11) | exact keepA (keepA (keepA f3_2_11)))
  have f3_3_12 : w12.cell? ⟨w5.heap.size, 3, none⟩ = some (.slice Ar5_0 (ssV p0 s0 L0).length cr5_0) := keep1 hq12 (by first | exact f3_3_11 | exact keepA f3_3_11 | exact keepA (keepA f3_3_11) | exact keepA (keepA (keepA f3_3_11)))
  have g0_12 : w.heap.size < w12.heap.size := World.block_lt_of_cell? _ _ f0_0_12
  have g1_12 : w3.heap.size < w12.heap.size := World.block_lt_of_cell? _ _ f1_0_12
  have g2_12 : w4.heap.size < w12.heap.size := World.block_lt_of_cell? _ _ f2_0_12
  have g3_12 : w5.heap.size < w12.heap.size := World.block_lt_of_cell? _ _ f3_0_12
  clear f0_0_11 f0_1_11 f0_2_11 f0_3_11 f1_0_11 f1_1_11 f1_2_11 f1_3_11 f2_0_11 f2_1_11 f2_2_11 f2_3_11 f3_0_11 f3_1_11 f3_2_11 f3_3_11 g0_11 g1_11 g2_11 g3_11
  have hz12 := hq12.size
  (try simp at hz12)
  go_wp2_with fail
  refine (toSheet_any p0 s0 _ _ L0 _ (m0.below (by (repeat (first | exact Below.refl _ _ | assumption | (refine Below.alloc ?_ (by first | omega | (simp; done) | (simp; omega)) _) | (refine Below.setCell ?_ (by first | omega | (simp; done) | (simp; omega)) _) | (refine Below.drew ?_) | (refine Below.drewN ?_ _) | (refine Below.next (by assumption) ?_ (by first | omega | (simp; done) | (simp; omega))))))) (by omega)).mono ?_
  rintro e w13 ⟨Ar13_0, cr13_0, rfl, ho13_0, hq13⟩
  have f0_0_13 : w13.cell? ⟨w.heap.size, 0, none⟩ = some (.int .i64 p0) := keep1 hq13 (by first | exact f0_0_12 | exact keepA f0_0_12 | exact keepA (keepA f0_0_12) | exact keepA (keepA (keepA f0_0_12)))
  have f0_1_13 : w13.cell? ⟨w.heap.size, 1, none⟩ = some (.int .i64 s0.x) := keep1 hq13 (by first | exact f0_1_12 | exact keepA f0_1_12 | exact keepA (keepA f0_1_12) | exact keepA (keepA (keepA f0_1_12)))
  have f0_2_13 : w13.cell? ⟨w.heap.size, 2, none⟩ = some (.int .i64 s0.y) := keep1 hq13 (by first | exact f0_2_12 | exact keepA f0_2_12 | exact keepA (keepA f0_2_12) | exact keepA (keepA (keepA f0_2_12)))
  have f0_3_13 : w13.cell? ⟨w.heap.size, 3, none⟩ = some (.slice A0 L0.length c0) := keep1 hq13 (by first | exact f0_3_12 | exact keepA f0_3_12 | exact keepA (keepA f0_3_12) | exact keepA (keepA (keepA f0_3_12)))
  have f1_0_13 : w13.cell? ⟨w3.heap.size, 0, none⟩ = some (.int .i64 (ssP p0 s0 L0)) := keep1 hq13 (by first | exact f1_0_12 | exact keepA f1_0_12 | exact keepA (keepA f1_0_12) | exact keepA (keepA (keepA f1_0_12)))
  have f1_1_13 : w13.cell? ⟨w3.heap.size, 1, none⟩ = some (.int .i64 (ssS p0 s0 L0).x) := keep1 hq13 (by first | exact f1_1_12 | exact keepA f1_1_12 | exact keepA (keepA f1_1_12) | exact keepA (keepA (keepA f1_1_12)))
  have f1_2_13 : w13.cell? ⟨w3.heap.size, 2, none⟩ = some (.int .i64 (ssS p0 s0 L0).y) := keep1 hq13 (by first | exact f1_2_12 | exact keepA f1_2_12 | exact keepA (keepA f1_2_12) | exact keepA (keepA (keepA f1_2_12)))
  have f1_3_13 : w13.cell? ⟨w3.heap.size, 3, none⟩ = some (.slice Ar3_0 (ssV p0 s0 L0).length cr3_0) := keep1 hq13 (by first | exact f1_3_12 | exact keepA f1_3_12 | exact keepA (keepA f1_3_12) | exact keepA (keepA (keepA f1_3_12)))
  have f2_0_13 : w13.cell? ⟨w4.heap.size, 0, none⟩ = some (.int .i64 p0) := keep1 hq13 (by first | exact f2_0_12 | exact keepA f2_0_12 | exact keepA (keepA f2_0_12) | exact keepA (keepA (keepA f2_0_12)))
  have f2_1_13 : w13.cell? ⟨w4.heap.size, 1, none⟩ = some (.int .i64 s0.x) := keep1 hq13 (by first | exact f2_1_12 | exact keepA f2_1_12 | exact keepA (keepA f2_1_12) | exact keepA (keepA (keepA f2_1_12)))
  have f2_2_13 : w13.cell? ⟨w4.heap.size, 2, none⟩ = some (.int .i64 s0.y) := keep1 hq13 (by first | exact f2_2_12 | exact keepA f2_2_12 | exact keepA (keepA f2_2_12) | exact keepA (keepA (keepA f2_2_12)))
  have f2_3_13 : w13.cell? ⟨w4.heap.size, 3, none⟩ = some (.slice Ar4_0 L0.length cr4_0) := keep1 hq13 (by first | exact f2_3_12 | exact keepA f2_3_12 | exact keepA (keepA f2_3_12) | exact keepA (keepA (keepA f2_3_12)))
  have f3_0_13 : w13.cell? ⟨w5.heap.size, 0, none⟩ = some (.int .i64 (ssP p0 s0 L0)) := keep1 hq13 (by first | exact f3_0_12 | exact keepA f3_0_12 | exact keepA (keepA f3_0_12) | exact keepA (keepA (keepA f3_0_12)))
  have f3_1_13 : w13.cell? ⟨w5.heap.size, 1, none⟩ = some (.int .i64 (ssS p0 s0 L0).x) := keep1 hq13 (by first | exact f3_1_12 | exact keepA f3_1_12 | exact keepA (keepA f3_1_12) | exact keepA (keepA (keepA f3_1_12)))
  have f3_2_13 : w13.cell? ⟨w5.heap.size, 2, none⟩ = some (.int .i64 (ssS p0 s0 L0).y) := keep1 hq13 (by first | exact f3_2_12 | exact keepA f3_2_12 | exact keepA (keepA f3_2_12) | exact keepA (keepA (keepA f3_2_12)))
  have f3_3_13 : w13.cell? ⟨w5.heap.size, 3, none⟩ = some (.slice Ar5_0 (ssV p0 s0 L0).length cr5_0) := keep1 hq13 (by first | exact f3_3_12 | exact keepA f3_3_12 | exact keepA (keepA f3_3_12) | exact keepA (keepA (keepA f3_3_12)))
  have g0_13 : w.heap.size < w13.heap.size := World.block_lt_of_cell? _ _ f0_0_13
  have g1_13 : w3.heap.size < w13.heap.size := World.block_lt_of_cell? _ _ f1_0_13
  have g2_13 : w4.heap.size < w13.heap.size := World.block_lt_of_cell? _ _ f2_0_13
  have g3_13 : w5.heap.size < w13.heap.size := World.block_lt_of_cell? _ _ f3_0_13
  clear f0_0_12 f0_1_12 f0_2_12 f0_3_12 f1_0_12 f1_1_12 f1_2_12 f1_3_12 f2_0_12 f2_1_12 f2_2_12 f2_3_12 f3_0_12 f3_1_12 f3_2_12 f3_3_12 g0_12 g1_12 g2_12 g3_12
  have hz13 := hq13.size
  (try simp at hz13)
  go_wp2_with fail
  refine (impl_ShortenSheet_any p0 s0 _ _ L0 _ (Mem.below (Mem.of_own ho13_0) (by (repeat (first | exact Below.refl _ _ | assumption | (refine Below.alloc ?_ (by first | omega | (simp; done) | (simp; omega)) _) | (refine Below.setCell ?_ (by first | omega | (simp; done) | (simp; omega)) _) | (refine Below.drew ?_) | (refine Below.drewN ?_ _) | (refine Below.next (by assumption) ?_ (by first | omega | (simp; done) | (simp; omega))))))) u0).mono ?_
  rintro e w14 ⟨Ar14_0, cr14_0, rfl, ho14_0, hq14⟩
  have f0_0_14 : w14.cell? ⟨w.heap.size, 0, none⟩ = some (.int .i64 p0) := keep1 hq14 (by first | exact f0_0_13 | exact keepA f0_0_13 | exact keepA (keepA f0_0_13) | exact keepA (keepA (keepA f0_0_13)))
  have f0_1_14 : w14.cell? ⟨w.heap.size, 1, none⟩ = some (.int .i64 s0.x) := keep1 hq14 (by first | exact f0_1_13 | exact keepA f0_1_13 | exact keepA (keepA f0_1_13) | exact keepA (keepA (keepA f0_1_13)))
  have f0_2_14 : w14.cell? ⟨w.heap.size, 2, none⟩ = some (.int .i64 s0.y) := keep1 hq14 (by first | exact f0_2_13 | exact keepA f0_2_13 | exact keepA (keepA f0_2_13) | exact keepA (keepA (keepA f0_2_13)))
  have f0_3_14 : w14.cell? ⟨w.heap.size, 3, none⟩ = some (.slice A0 L0.length c0) := keep1 hq14 (by first | exact f0_3_13 | exact keepA f0_3_13 | exact keepA (keepA f0_3_13) | exact keepA (keepA (keepA f0_3_13)))
  have f1_0_14 : w14.cell? ⟨w3.heap.size, 0, none⟩ = some (.int .i64 (ssP p0 s0 L0)) := keep1 hq14 (by first | exact f1_0_13 | exact keepA f1_0_13 | exact keepA (keepA f1_0_13) | exact keepA (keepA (keepA f1_0_13)))
  have f1_1_14 : w14.cell? ⟨w3.heap.size, 1, none⟩ = some (.int .i64 (ssS p0 s0 L0).x) := keep1 hq14 (by first | exact f1_1_13 | exact keepA f1_1_13 | exact keepA (keepA f1_1_13) | exact keepA (keepA (keepA f1_1_13)))
  have f1_2_14 : w14.cell? ⟨w3.heap.size, 2, none⟩ = some (.int .i64 (ssS p0 s0 L0).y) := keep1 hq14 (by first | exact f1_2_13 | exact keepA f1_2_13 | exact keepA (keepA f1_2_13) | exact keepA (keepA (keepA f1_2_13)))
  have f1_3_14 : w14.cell? ⟨w3.heap.size, 3, none⟩ = some (.slice Ar3_0 (ssV p0 s0 L0).length cr3_0) := keep1 hq14 (by first | exact f1_3_13 | exact keepA f1_3_13 | exact keepA (keepA f1_3_13) | exact keepA (keepA (keepA f1_3_13)))
  have f2_0_14 : w14.cell? ⟨w4.heap.size, 0, none⟩ = some (.int .i64 p0) := keep1 hq14 (by first | exact f2_0_13 | exact keepA f2_0_13 | exact keepA (keepA f2_0_13) | exact keepA (keepA (keepA f2_0_13)))
  have f2_1_14 : w14.cell? ⟨w4.heap.size, 1, none⟩ = some (.int .i64 s0.x) := keep1 hq14 (by first | exact f2_1_13 | exact keepA f2_1_13 | exact keepA (keepA f2_1_13) | exact keepA (keepA (keepA f2_1_13)))
  have f2_2_14 : w14.cell? ⟨w4.heap.size, 2, none⟩ = some (.int .i64 s0.y) := keep1 hq14 (by first | exact f2_2_13 | exact keepA f2_2_13 | exact keepA (keepA f2_2_13) | exact keepA (keepA (keepA f2_2_13)))
  have f2_3_14 : w14.cell? ⟨w4.heap.size, 3, none⟩ = some (.slice Ar4_0 L0.length cr4_0) := keep1 hq14 (by first | exact f2_3_13 | exact keepA f2_3_13 | exact keepA (keepA f2_3_13) | exact keepA (keepA (keepA f2_3_13)))
  have f3_0_14 : w14.cell? ⟨w5.heap.size, 0, none⟩ = some (.int .i64 (ssP p0 s0 L0)) := keep1 hq14 (by first | exact f3_0_13 | exact keepA f3_0_13 | exact keepA (keepA f3_0_13) | exact keepA (keepA (keepA f3_0_13)))
  have f3_1_14 : w14.cell? ⟨w5.heap.size, 1, none⟩ = some (.int .i64 (ssS p0 s0 L0).x) := keep1 hq14 (by first | exact f3_1_13 | exact keepA f3_1_13 | exact keepA (keepA f3_1_13) | exact keepA (keepA (keepA f3_1_13)))
  have f3_2_14 : w14.cell? ⟨w5.heap.size, 2, none⟩ = some (.int .i64 (ssS p0 s0 L0).y) := keep1 hq14 (by first | exact f3_2_13 | exact keepA f3_2_13 | exact keepA (keepA f3_2_13) | exact keepA (keepA (keepA f3_2_13)))
  have f3_3_14 : w14.cell? ⟨w5.heap.size, 3, none⟩ = some (.slice Ar5_0 (ssV p0 s0 L0).length cr5_0) := keep1 hq14 (by first | exact f3_3_13 | exact keepA f3_3_13 | exact keepA (keepA f3_3_13) | exact keepA (keepA (keepA f3_3_13)))
  have g0_14 : w.heap.size < w14.heap.size := World.block_lt_of_cell? _ _ f0_0_14
  have g1_14 : w3.heap.size < w14.heap.size := World.block_lt_of_cell? _ _ f1_0_14
  have g2_14 : w4.heap.size < w14.heap.size := World.block_lt_of_cell? _ _ f2_0_14
  have g3_14 : w5.heap.size < w14.heap.size := World.block_lt_of_cell? _ _ f3_0_14
  clear f0_0_13 f0_1_13 f0_2_13 f0_3_13 f1_0_13 f1_1_13 f1_2_13 f1_3_13 f2_0_13 f2_1_13 f2_2_13 f2_3_13 f3_0_13 f3_1_13 f3_2_13 f3_3_13 g0_13 g1_13 g2_13 g3_13
  have hz14 := hq14.size
  (try simp at hz14)
  go_wp2_with fail
  refine (eqSheet_any (ssP p0 s0 L0) (ssP p0 s0 L0) (ssS p0 s0 L0) (ssS p0 s0 L0) _ _ _ _ (ssV p0 s0 L0) (ssV p0 s0 L0) _ (Mem.below (Mem.of_own ho14_0) (by (repeat (first | exact Below.refl _ _ | assumption | (refine Below.alloc ?_ (by first | omega | (simp; done) | (simp; omega)) _) | (refine Below.setCell ?_ (by first | omega | (simp; done) | (simp; omega)) _) | (refine Below.drew ?_) | (refine Below.drewN ?_ _) | (refine Below.next (by assumption) ?_ (by first | omega | (simp; done) | (simp; omega))))))) (Mem.below (Mem.of_own hk3_0_11) (by (repeat (first | exact Below.refl _ _ | assumption | (refine Below.alloc ?_ (by first | omega | (simp; done) | (simp; omega)) _) | (refine Below.setCell ?_ (by first | omega | (simp; done) | (simp; omega)) _) | (refine Below.drew ?_) | (refine Below.drewN ?_ _) | (refine Below.next (by assumption) ?_ (by first | omega | (simp; done) | (simp; omega))))))) (by first | omega | exact hV0) (by first | omega | exact hV0)).mono ?_
  rintro e w15 ⟨he, hq15⟩
  rw [shEq_same] at he
  subst he
  have f0_0_15 : w15.cell? ⟨w.heap.size, 0, none⟩ = some (.int .i64 p0) := keep1 hq15 (by first | exact f0_0_14 | exact keepA f0_0_14 | exact keepA (keepA f0_0_14) | exact keepA (keepA (keepA f0_0_14)))
  have f0_1_15 : w15.cell? ⟨w.heap.size, 1, none⟩ = some (.int .i64 s0.x) := keep1 hq15 (by first | exact f0_1_14 | exact keepA f0_1_14 | exact keepA (keepA f0_1_14) | exact keepA (keepA (keepA f0_1_14)))
  have f0_2_15 : w15.cell? ⟨w.heap.size, 2, none⟩ = some (.int .i64 s0.y) := keep1 hq15 (by first | exact f0_2_14 | exact keepA f0_2_14 | exact keepA (keepA f0_2_14) | exact keepA (keepA (keepA f0_2_14)))
  have f0_3_15 : w15.cell? ⟨w.heap.size, 3, none⟩ = some (.slice A0 L0.length c0) := keep1 hq15 (by first | exact f0_3_14 | exact keepA f0_3_14 | exact keepA (keepA f0_3_14) | exact keepA (keepA (keepA f0_3_14)))
  have f1_0_15 : w15.cell? ⟨w3.heap.size, 0, none⟩ = some (.int .i64 (ssP p0 s0 L0)) := keep1 hq15 (by first | exact f1_0_14 | exact keepA f1_0_14 | exact keepA (keepA f1_0_14) | exact keepA (keepA (keepA f1_0_14)))
  have f1_1_15 : w15.cell? ⟨w3.heap.size, 1, none⟩ = some (.int .i64 (ssS p0 s0 L0).x) := keep1 hq15 (by first | exact f1_1_14 | exact keepA f1_1_14 | exact keepA (keepA f1_1_14) | exact keepA (keepA (keepA f1_1_14)))
  have f1_2_15 : w15.cell? ⟨w3.heap.size, 2, none⟩ = some (.int .i64 (ssS p0 s0 L0).y) := keep1 hq15 (by first | exact f1_2_14 | exact keepA f1_2_14 | exact keepA (keepA f1_2_14) | exact keepA (keepA (keepA f1_2_14)))
  have f1_3_15 : w15.cell? ⟨w3.heap.size, 3, none⟩ = some (.slice Ar3_0 (ssV p0 s0 L0).length cr3_0) := keep1 hq15 (by first | exact f1_3_14 | exact keepA f1_3_14 | exact keepA (keepA f1_3_14) | exact keepA (keepA (keepA f1_3_14)))
  have f2_0_15 : w15.cell? ⟨w4.heap.size, 0, none⟩ = some (.int .i64 p0) := keep1 hq15 (by first | exact f2_0_14 | exact keepA f2_0_14 | exact keepA (keepA f2_0_14) | exact keepA (keepA (keepA f2_0_14)))
  have f2_1_15 : w15.cell? ⟨w4.heap.size, 1, none⟩ = some (.int .i64 s0.x) := keep1 hq15 (by first | exact f2_1_14 | exact keepA f2_1_14 | exact keepA (keepA f2_1_14) | exact keepA (keepA (keepA f2_1_14)))
  have f2_2_15 : w15.cell? ⟨w4.heap.size, 2, none⟩ = some (.int .i64 s0.y) := keep1 hq15 (by first | exact f2_2_14 | exact keepA f2_2_14 | exact keepA (keepA f2_2_14) | exact keepA (keepA (keepA f2_2_14)))
  have f2_3_15 : w15.cell? ⟨w4.heap.size, 3, none⟩ = some (.slice Ar4_0 L0.length cr4_0) := keep1 hq15 (by first | exact f2_3_14 | exact keepA f2_3_14 | exact keepA (keepA f2_3_14) | exact keepA (keepA (keepA f2_3_14)))
  have f3_0_15 : w15.cell? ⟨w5.heap.size, 0, none⟩ = some (.int .i64 (ssP p0 s0 L0)) := keep1 hq15 (by first | exact f3_0_14 | exact keepA f3_0_14 | exact keepA (keepA f3_0_14) | exact keepA (keepA (keepA f3_0_14)))
  have f3_1_15 : w15.cell? ⟨w5.heap.size, 1, none⟩ = some (.int .i64 (ssS p0 s0 L0).x) := keep1 hq15 (by first | exact f3_1_14 | exact keepA f3_1_14 | exact keepA (keepA f3_1_14) | exact keepA (keepA (keepA f3_1_14)))
  have f3_2_15 : w15.cell? ⟨w5.heap.size, 2, none⟩ = some (.int .i64 (ssS p0 s0 L0).y) := keep1 hq15 (by first | exact f3_2_14 | exact keepA f3_2_14 | exact keepA (keepA f3_2_14) | exact keepA (keepA (keepA f3_2_14)))
  have f3_3_15 : w15.cell? ⟨w5.heap.size, 3, none⟩ = some (.slice Ar5_0 (ssV p0 s0 L0).length cr5_0) := keep1 hq15 (by first | exact f3_3_14 | exact keepA f3_3_14 | exact keepA (keepA f3_3_14) | exact keepA (keepA (keepA f3_3_14)))
  have f4_0_15 : w15.cell? ⟨w14.heap.size, 0, none⟩ = some (.int .i64 (ssP p0 s0 L0)) := keep1 hq15 (by first | (simp [go_sem]; done))
  have f4_1_15 : w15.cell? ⟨w14.heap.size, 1, none⟩ = some (.int .i64 (ssS p0 s0 L0).x) := keep1 hq15 (by first | (simp [go_sem]; done))
  have f4_2_15 : w15.cell? ⟨w14.heap.size, 2, none⟩ = some (.int .i64 (ssS p0 s0 L0).y) := keep1 hq15 (by first | (simp [go_sem]; done))
  have f4_3_15 : w15.cell? ⟨w14.heap.size, 3, none⟩ = some (.slice Ar14_0 (ssV p0 s0 L0).length cr14_0) := keep1 hq15 (by first | (simp [go_sem]; done))
  have g0_15 : w.heap.size < w15.heap.size := World.block_lt_of_cell? _ _ f0_0_15
  have g1_15 : w3.heap.size < w15.heap.size := World.block_lt_of_cell? _ _ f1_0_15
  have g2_15 : w4.heap.size < w15.heap.size := World.block_lt_of_cell? _ _ f2_0_15
  have g3_15 : w5.heap.size < w15.heap.size := World.block_lt_of_cell? _ _ f3_0_15
  have g4_15 : w14.heap.size < w15.heap.size := World.block_lt_of_cell? _ _ f4_0_15
  clear f0_0_14 f0_1_14 f0_2_14 f0_3_14 f1_0_14 f1_1_14 f1_2_14 f1_3_14 f2_0_14 f2_1_14 f2_2_14 f2_3_14 f3_0_14 f3_1_14 f3_2_14 f3_3_14 g0_14 g1_14 g2_14 g3_14
  have hz15 := hq15.size
  (try simp at hz15)
  go_wp2_with fail
  refine (heldSheet_any (ssP p0 s0 L0) (ssS p0 s0 L0) _ _ _ _ _ (Mem.below (Mem.of_own hm11) (by (repeat (first | exact Below.refl _ _ | assumption | (refine Below.alloc ?_ (by first | omega | (simp; done) | (simp; omega)) _) | (refine Below.setCell ?_ (by first | omega | (simp; done) | (simp; omega)) _) | (refine Below.drew ?_) | (refine Below.drewN ?_ _) | (refine Below.next (by assumption) ?_ (by first | omega | (simp; done) | (simp; omega))))))) (by first | omega | exact hV0) (by omega) (by omega)).mono ?_
  rintro e w16 ⟨rfl, hq16⟩
  have f0_0_16 : w16.cell? ⟨w.heap.size, 0, none⟩ = some (.int .i64 p0) := keep1 hq16 (by first | exact f0_0_15 | exact keepA f0_0_15 | exact keepA (keepA f0_0_15) | exact keepA (keepA (keepA f0_0_15)))
  have f0_1_16 : w16.cell? ⟨w.heap.size, 1, none⟩ = some (.int .i64 s0.x) := keep1 hq16 (by first | exact f0_1_15 | exact keepA f0_1_15 | exact keepA (keepA f0_1_15) | exact keepA (keepA (keepA f0_1_15)))
  have f0_2_16 : w16.cell? ⟨w.heap.size, 2, none⟩ = some (.int .i64 s0.y) := keep1 hq16 (by first | exact f0_2_15 | exact keepA f0_2_15 | exact keepA (keepA f0_2_15) | exact keepA (keepA (keepA f0_2_15)))
  have f0_3_16 : w16.cell? ⟨w.heap.size, 3, none⟩ = some (.slice A0 L0.length c0) := keep1 hq16 (by first | exact f0_3_15 | exact keepA f0_3_15 | exact keepA (keepA f0_3_15) | exact keepA (keepA (keepA f0_3_15)))
  have f1_0_16 : w16.cell? ⟨w3.heap.size, 0, none⟩ = some (.int .i64 (ssP p0 s0 L0)) := keep1 hq16 (by first | exact f1_0_15 | exact keepA f1_0_15 | exact keepA (keepA f1_0_15) | exact keepA (keepA (keepA f1_0_15)))
  have f1_1_16 : w16.cell? ⟨w3.heap.size, 1, none⟩ = some (.int .i64 (ssS p0 s0 L0).x) := keep1 hq16 (by first | exact f1_1_15 | exact keepA f1_1_15 | exact keepA (keepA f1_1_15) | exact keepA (keepA (keepA f1_1_15)))
  have f1_2_16 : w16.cell? ⟨w3.heap.size, 2, none⟩ = some (.int .i64 (ssS p0 s0 L0).y) := keep1 hq16 (by first | exact f1_2_15 | exact keepA f1_2_15 | exact keepA (keepA f1_2_15) | exact keepA (keepA (keepA f1_2_15)))
  have f1_3_16 : w16.cell? ⟨w3.heap.size, 3, none⟩ = some (.slice Ar3_0 (ssV p0 s0 L0).length cr3_0) := keep1 hq16 (by first | exact f1_3_15 | exact keepA f1_3_15 | exact keepA (keepA f1_3_15) | exact keepA (keepA (keepA f1_3_15)))
  have f2_0_16 : w16.cell? ⟨w4.heap.size, 0, none⟩ = some (.int .i64 p0) := keep1 hq16 (by first | exact f2_0_15 | exact keepA f2_0_15 | exact keepA (keepA f2_0_15) | exact keepA (keepA (keepA f2_0_15)))
  have f2_1_16 : w16.cell? ⟨w4.heap.size, 1, none⟩ = some (.int .i64 s0.x) := keep1 hq16 (by first | exact f2_1_15 | exact keepA f2_1_15 | exact keepA (keepA f2_1_15) | exact keepA (keepA (keepA f2_1_15)))
  have f2_2_16 : w16.cell? ⟨w4.heap.size, 2, none⟩ = some (.int .i64 s0.y) := keep1 hq16 (by first | exact f2_2_15 | exact keepA f2_2_15 | exact keepA (keepA f2_2_15) | exact keepA (keepA (keepA f2_2_15)))
  have f2_3_16 : w16.cell? ⟨w4.heap.size, 3, none⟩ = some (.slice Ar4_0 L0.length cr4_0) := keep1 hq16 (by first | exact f2_3_15 | exact keepA f2_3_15 | exact keepA (keepA f2_3_15) | exact keepA (keepA (keepA f2_3_15)))
  have f3_0_16 : w16.cell? ⟨w5.heap.size, 0, none⟩ = some (.int .i64 (ssP p0 s0 L0)) := keep1 hq16 (by first | exact f3_0_15 | exact keepA f3_0_15 | exact keepA (keepA f3_0_15) | exact keepA (keepA (keepA f3_0_15)))
  have f3_1_16 : w16.cell? ⟨w5.heap.size, 1, none⟩ = some (.int .i64 (ssS p0 s0 L0).x) := keep1 hq16 (by first | exact f3_1_15 | exact keepA f3_1_15 | exact keepA (keepA f3_1_15) | exact keepA (keepA (keepA f3_1_15)))
  have f3_2_16 : w16.cell? ⟨w5.heap.size, 2, none⟩ = some (.int .i64 (ssS p0 s0 L0).y) := keep1 hq16 (by first | exact f3_2_15 | exact keepA f3_2_15 | exact keepA (keepA f3_2_15) | exact keepA (keepA (keepA f3_2_15)))
  have f3_3_16 : w16.cell? ⟨w5.heap.size, 3, none⟩ = some (.slice Ar5_0 (ssV p0 s0 L0).length cr5_0) := keep1 hq16 (by first | exact f3_3_15 | exact keepA f3_3_15 | exact keepA (keepA f3_3_15) | exact keepA (keepA (keepA f3_3_15)))
  have f4_0_16 : w16.cell? ⟨w14.heap.size, 0, none⟩ = some (.int .i64 (ssP p0 s0 L0)) := keep1 hq16 (by first | exact f4_0_15 | exact keepA f4_0_15 | exact keepA (keepA f4_0_15) | exact keepA (keepA (keepA f4_0_15)))
  have f4_1_16 : w16.cell? ⟨w14.heap.size, 1, none⟩ = some (.int .i64 (ssS p0 s0 L0).x) := keep1 hq16 (by first | exact f4_1_15 | exact keepA f4_1_15 | exact keepA (keepA f4_1_15) | exact keepA (keepA (keepA f4_1_15)))
  have f4_2_16 : w16.cell? ⟨w14.heap.size, 2, none⟩ = some (.int .i64 (ssS p0 s0 L0).y) := keep1 hq16 (by first | exact f4_2_15 | exact keepA f4_2_15 | exact keepA (keepA f4_2_15) | exact keepA (keepA (keepA f4_2_15)))
  have f4_3_16 : w16.cell? ⟨w14.heap.size, 3, none⟩ = some (.slice Ar14_0 (ssV p0 s0 L0).length cr14_0) := keep1 hq16 (by first | exact f4_3_15 | exact keepA f4_3_15 | exact keepA (keepA f4_3_15) | exact keepA (keepA (keepA f4_3_15)))
  have g0_16 : w.heap.size < w16.heap.size := World.block_lt_of_cell? _ _ f0_0_16
  have g1_16 : w3.heap.size < w16.heap.size := World.block_lt_of_cell? _ _ f1_0_16
  have g2_16 : w4.heap.size < w16.heap.size := World.block_lt_of_cell? _ _ f2_0_16
  have g3_16 : w5.heap.size < w16.heap.size := World.block_lt_of_cell? _ _ f3_0_16
  have g4_16 : w14.heap.size < w16.heap.size := World.block_lt_of_cell? _ _ f4_0_16
  clear f0_0_15 f0_1_15 f0_2_15 f0_3_15 f1_0_15 f1_1_15 f1_2_15 f1_3_15 f2_0_15 f2_1_15 f2_2_15 f2_3_15 f3_0_15 f3_1_15 f3_2_15 f3_3_15 f4_0_15 f4_1_15 f4_2_15 f4_3_15 g0_15 g1_15 g2_15 g3_15 g4_15
  have hz16 := hq16.size
  (try simp at hz16)
  go_wp2_with fail
  go_ret
  exact ⟨rfl, by (repeat (first | exact Below.refl _ _ | assumption | (refine Below.alloc ?_ (by first | omega | (simp; done) | (simp; omega)) _) | (refine Below.setCell ?_ (by first | omega | (simp; done) | (simp; omega)) _) | (refine Below.drew ?_) | (refine Below.drewN ?_ _) | (refine Below.next (by assumption) ?_ (by first | omega | (simp; done) | (simp; omega)))))⟩
end Go.Proofs.Ytbnelhhicfnbeaa
