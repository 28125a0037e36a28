/-
  Contracts: LeastDelayed, LeastApart.
-/
import Derived.Test.YthehcjfljjfnmaaGreatPld
import Derived.BigQuiet
namespace Go.Proofs.YthehcjfljjfnmaaGreat
open Go.RowKit Go.Sort Go.Lib

theorem ldOk_iff {a b : Mv} {p q : Int} : ldOk a b p q = true ↔ shMv a = true ∧ tgOk a b = true ∧ (0 ≤ p ∧ p ≤ 4) ∧ (0 ≤ q ∧ q ≤ 4) := by
  simp only [ldOk, Bool.and_eq_true, inR_iff, and_assoc]
theorem tgOk_iff {a b : Mv} : tgOk a b = true ↔ isMw a = true ∧ isMw b = true ∧ a.c = b.c := by
  simp only [tgOk, Bool.and_eq_true, decide_eq_true_eq, and_assoc]
theorem tg_ok {a b : Mv} (h : tgOk a b = true) (ha : mvOk a) : mvOk b ∧ b.c = a.c := by
  obtain ⟨-, h2, h3⟩ := tgOk_iff.1 h
  obtain ⟨b1, b2, b3, b4⟩ := isMw_iff.1 h2
  exact ⟨⟨b1, b2, b3, by rw [← h3]; exact ha.2.2.2⟩, h3.symm⟩
theorem ldOk_im (a b : Mv) (p q : Int) : ldOk a b p q = ((((shMv a && shMv b) && decide (a.c = b.c)) && inR p 0 4) && inR q 0 4) := by
  cases h1 : shMv a
  · simp [ldOk, h1]
  by_cases h2 : a.c = b.c
  · have h3 : isMw a = true := by rw [shMv, Bool.and_eq_true] at h1; exact h1.1
    have h4 : decide (b.c ≤ 16) = true := by rw [shMv, Bool.and_eq_true] at h1; rw [← h2]; exact h1.2
    simp [ldOk, tgOk, h1, h2, h3, shMv, h4]
  · simp [ldOk, tgOk, h1, h2]

set_option maxRecDepth 100000 in
set_option maxHeartbeats 3200000 in
theorem spec_LeastDelayed_any (a b : Mv) (p q : Int) (w : World) : Calls Tryz.prog 6 #[.agg #[.int .i64 a.f.x, .int .i64 a.f.y, .int .i64 a.t.x, .int .i64 a.t.y, .int .i64 a.c], .agg #[.int .i64 b.f.x, .int .i64 b.f.y, .int .i64 b.t.x, .int .i64 b.t.y, .int .i64 b.c], .int .i64 p, .int .i64 q] w fun e w' => e = .returned (.tuple #[.int .i64 (ldA a b p q), .int .i64 (ldB a b p q), .bool (ldOk a b p q)]) ∧ Below w.heap.size w w' := by
  have e0 : Hid (ldOk a b p q = (((shMv a && tgOk a b) && inR p 0 4) && inR q 0 4)) := Lib.hid rfl
  have e1 : Hid (ldOk a b p q = false → ldA a b p q = 0 ∧ ldB a b p q = 0) := Lib.hid (fun h => by simp [ldA, ldB, h])
  have e2 : Hid (ldOk a b p q = true → ldA a b p q = ldN a b p q ∧ ldB a b p q = ldD a b p q) := Lib.hid (fun h => by simp [ldA, ldB, h])
  have hW0 : Below w.heap.size w ((w.alloc (.cells #[.int .i64 a.f.x, .int .i64 a.f.y, .int .i64 a.t.x, .int .i64 a.t.y, .int .i64 a.c] 26)).alloc (.cells #[.int .i64 b.f.x, .int .i64 b.f.y, .int .i64 b.t.x, .int .i64 b.t.y, .int .i64 b.c] 26)) := by (repeat (first | exact Below.refl _ _ | assumption | (refine Below.alloc ?_ (by first | omega | (simp; done) | (simp; omega)) _) | (refine Below.setCell ?_ (by first | omega | (simp; done) | (simp; omega)) _) | (refine Below.drew ?_) | (refine Below.drewN ?_ _) | (refine Below.next (by assumption) ?_ (by first | omega | (simp; done) | (simp; omega)))))
  have hs0 : ((w.alloc (.cells #[.int .i64 a.f.x, .int .i64 a.f.y, .int .i64 a.t.x, .int .i64 a.t.y, .int .i64 a.c] 26)).alloc (.cells #[.int .i64 b.f.x, .int .i64 b.f.y, .int .i64 b.t.x, .int .i64 b.t.y, .int .i64 b.c] 26)).heap.size = w.heap.size + 1 + 1 := by simp
  have ma0 : ((w.alloc (.cells #[.int .i64 a.f.x, .int .i64 a.f.y, .int .i64 a.t.x, .int .i64 a.t.y, .int .i64 a.c] 26)).alloc (.cells #[.int .i64 b.f.x, .int .i64 b.f.y, .int .i64 b.t.x, .int .i64 b.t.y, .int .i64 b.c] 26)).cell? ⟨w.heap.size, 0, none⟩ = some (.int .i64 a.f.x) := by simp [go_sem]
  have ma1 : ((w.alloc (.cells #[.int .i64 a.f.x, .int .i64 a.f.y, .int .i64 a.t.x, .int .i64 a.t.y, .int .i64 a.c] 26)).alloc (.cells #[.int .i64 b.f.x, .int .i64 b.f.y, .int .i64 b.t.x, .int .i64 b.t.y, .int .i64 b.c] 26)).cell? ⟨w.heap.size, 1, none⟩ = some (.int .i64 a.f.y) := by simp [go_sem]
  have ma2 : ((w.alloc (.cells #[.int .i64 a.f.x, .int .i64 a.f.y, .int .i64 a.t.x, .int .i64 a.t.y, .int .i64 a.c] 26)).alloc (.cells #[.int .i64 b.f.x, .int .i64 b.f.y, .int .i64 b.t.x, .int .i64 b.t.y, .int .i64 b.c] 26)).cell? ⟨w.heap.size, 2, none⟩ = some (.int .i64 a.t.x) := by simp [go_sem]
  have ma3 : ((w.alloc (.cells #[.int .i64 a.f.x, .int .i64 a.f.y, .int .i64 a.t.x, .int .i64 a.t.y, .int .i64 a.c] 26)).alloc (.cells #[.int .i64 b.f.x, .int .i64 b.f.y, .int .i64 b.t.x, .int .i64 b.t.y, .int .i64 b.c] 26)).cell? ⟨w.heap.size, 3, none⟩ = some (.int .i64 a.t.y) := by simp [go_sem]
  have ma4 : ((w.alloc (.cells #[.int .i64 a.f.x, .int .i64 a.f.y, .int .i64 a.t.x, .int .i64 a.t.y, .int .i64 a.c] 26)).alloc (.cells #[.int .i64 b.f.x, .int .i64 b.f.y, .int .i64 b.t.x, .int .i64 b.t.y, .int .i64 b.c] 26)).cell? ⟨w.heap.size, 4, none⟩ = some (.int .i64 a.c) := by simp [go_sem]
  have mb0 : ((w.alloc (.cells #[.int .i64 a.f.x, .int .i64 a.f.y, .int .i64 a.t.x, .int .i64 a.t.y, .int .i64 a.c] 26)).alloc (.cells #[.int .i64 b.f.x, .int .i64 b.f.y, .int .i64 b.t.x, .int .i64 b.t.y, .int .i64 b.c] 26)).cell? ⟨w.heap.size + 1, 0, none⟩ = some (.int .i64 b.f.x) := by simp [go_sem]
  have mb1 : ((w.alloc (.cells #[.int .i64 a.f.x, .int .i64 a.f.y, .int .i64 a.t.x, .int .i64 a.t.y, .int .i64 a.c] 26)).alloc (.cells #[.int .i64 b.f.x, .int .i64 b.f.y, .int .i64 b.t.x, .int .i64 b.t.y, .int .i64 b.c] 26)).cell? ⟨w.heap.size + 1, 1, none⟩ = some (.int .i64 b.f.y) := by simp [go_sem]
  have mb2 : ((w.alloc (.cells #[.int .i64 a.f.x, .int .i64 a.f.y, .int .i64 a.t.x, .int .i64 a.t.y, .int .i64 a.c] 26)).alloc (.cells #[.int .i64 b.f.x, .int .i64 b.f.y, .int .i64 b.t.x, .int .i64 b.t.y, .int .i64 b.c] 26)).cell? ⟨w.heap.size + 1, 2, none⟩ = some (.int .i64 b.t.x) := by simp [go_sem]
  have mb3 : ((w.alloc (.cells #[.int .i64 a.f.x, .int .i64 a.f.y, .int .i64 a.t.x, .int .i64 a.t.y, .int .i64 a.c] 26)).alloc (.cells #[.int .i64 b.f.x, .int .i64 b.f.y, .int .i64 b.t.x, .int .i64 b.t.y, .int .i64 b.c] 26)).cell? ⟨w.heap.size + 1, 3, none⟩ = some (.int .i64 b.t.y) := by simp [go_sem]
  have mb4 : ((w.alloc (.cells #[.int .i64 a.f.x, .int .i64 a.f.y, .int .i64 a.t.x, .int .i64 a.t.y, .int .i64 a.c] 26)).alloc (.cells #[.int .i64 b.f.x, .int .i64 b.f.y, .int .i64 b.t.x, .int .i64 b.t.y, .int .i64 b.c] 26)).cell? ⟨w.heap.size + 1, 4, none⟩ = some (.int .i64 b.c) := by simp [go_sem]
  have M_ := Lib.hid (show (((w.alloc (.cells #[.int .i64 a.f.x, .int .i64 a.f.y, .int .i64 a.t.x, .int .i64 a.t.y, .int .i64 a.c] 26)).alloc (.cells #[.int .i64 b.f.x, .int .i64 b.f.y, .int .i64 b.t.x, .int .i64 b.t.y, .int .i64 b.c] 26)).cell? ⟨w.heap.size, 0, none⟩ = some (.int .i64 a.f.x) ∧ ((w.alloc (.cells #[.int .i64 a.f.x, .int .i64 a.f.y, .int .i64 a.t.x, .int .i64 a.t.y, .int .i64 a.c] 26)).alloc (.cells #[.int .i64 b.f.x, .int .i64 b.f.y, .int .i64 b.t.x, .int .i64 b.t.y, .int .i64 b.c] 26)).cell? ⟨w.heap.size, 1, none⟩ = some (.int .i64 a.f.y) ∧ ((w.alloc (.cells #[.int .i64 a.f.x, .int .i64 a.f.y, .int .i64 a.t.x, .int .i64 a.t.y, .int .i64 a.c] 26)).alloc (.cells #[.int .i64 b.f.x, .int .i64 b.f.y, .int .i64 b.t.x, .int .i64 b.t.y, .int .i64 b.c] 26)).cell? ⟨w.heap.size, 2, none⟩ = some (.int .i64 a.t.x) ∧ ((w.alloc (.cells #[.int .i64 a.f.x, .int .i64 a.f.y, .int .i64 a.t.x, .int .i64 a.t.y, .int .i64 a.c] 26)).alloc (.cells #[.int .i64 b.f.x, .int .i64 b.f.y, .int .i64 b.t.x, .int .i64 b.t.y, .int .i64 b.c] 26)).cell? ⟨w.heap.size, 3, none⟩ = some (.int .i64 a.t.y) ∧ ((w.alloc (.cells #[.int .i64 a.f.x, .int .i64 a.f.y, .int .i64 a.t.x, .int .i64 a.t.y, .int .i64 a.c] 26)).alloc (.cells #[.int .i64 b.f.x, .int .i64 b.f.y, .int .i64 b.t.x, .int .i64 b.t.y, .int .i64 b.c] 26)).cell? ⟨w.heap.size, 4, none⟩ = some (.int .i64 a.c)) ∧ (((w.alloc (.cells #[.int .i64 a.f.x, .int .i64 a.f.y, .int .i64 a.t.x, .int .i64 a.t.y, .int .i64 a.c] 26)).alloc (.cells #[.int .i64 b.f.x, .int .i64 b.f.y, .int .i64 b.t.x, .int .i64 b.t.y, .int .i64 b.c] 26)).cell? ⟨w.heap.size + 1, 0, none⟩ = some (.int .i64 b.f.x) ∧ ((w.alloc (.cells #[.int .i64 a.f.x, .int .i64 a.f.y, .int .i64 a.t.x, .int .i64 a.t.y, .int .i64 a.c] 26)).alloc (.cells #[.int .i64 b.f.x, .int .i64 b.f.y, .int .i64 b.t.x, .int .i64 b.t.y, .int .i64 b.c] 26)).cell? ⟨w.heap.size + 1, 1, none⟩ = some (.int .i64 b.f.y) ∧ ((w.alloc (.cells #[.int .i64 a.f.x, .int .i64 a.f.y, .int .i64 a.t.x, .int .i64 a.t.y, .int .i64 a.c] 26)).alloc (.cells #[.int .i64 b.f.x, .int .i64 b.f.y, .int .i64 b.t.x, .int .i64 b.t.y, .int .i64 b.c] 26)).cell? ⟨w.heap.size + 1, 2, none⟩ = some (.int .i64 b.t.x) ∧ ((w.alloc (.cells #[.int .i64 a.f.x, .int .i64 a.f.y, .int .i64 a.t.x, .int .i64 a.t.y, .int .i64 a.c] 26)).alloc (.cells #[.int .i64 b.f.x, .int .i64 b.f.y, .int .i64 b.t.x, .int .i64 b.t.y, .int .i64 b.c] 26)).cell? ⟨w.heap.size + 1, 3, none⟩ = some (.int .i64 b.t.y) ∧ ((w.alloc (.cells #[.int .i64 a.f.x, .int .i64 a.f.y, .int .i64 a.t.x, .int .i64 a.t.y, .int .i64 a.c] 26)).alloc (.cells #[.int .i64 b.f.x, .int .i64 b.f.y, .int .i64 b.t.x, .int .i64 b.t.y, .int .i64 b.c] 26)).cell? ⟨w.heap.size + 1, 4, none⟩ = some (.int .i64 b.c)) ∧ Below w.heap.size w ((w.alloc (.cells #[.int .i64 a.f.x, .int .i64 a.f.y, .int .i64 a.t.x, .int .i64 a.t.y, .int .i64 a.c] 26)).alloc (.cells #[.int .i64 b.f.x, .int .i64 b.f.y, .int .i64 b.t.x, .int .i64 b.t.y, .int .i64 b.c] 26)) ∧ ((w.alloc (.cells #[.int .i64 a.f.x, .int .i64 a.f.y, .int .i64 a.t.x, .int .i64 a.t.y, .int .i64 a.c] 26)).alloc (.cells #[.int .i64 b.f.x, .int .i64 b.f.y, .int .i64 b.t.x, .int .i64 b.t.y, .int .i64 b.c] 26)).heap.size = w.heap.size + 1 + 1 from ⟨⟨ma0, ma1, ma2, ma3, ma4⟩, ⟨mb0, mb1, mb2, mb3, mb4⟩, hW0, hs0⟩)
  clear ma0 ma1 ma2 ma3 ma4 mb0 mb1 mb2 mb3 mb4 hW0 hs0
  cases h1 : shMv a
  all_goals
    have H1 := Lib.hid h1
    clear h1
    go_enter Tryz.func6, Tryz.ntmps6
    go_wp2_with fail
    (try generalize ((w.alloc (.cells #[.int .i64 a.f.x, .int .i64 a.f.y, .int .i64 a.t.x, .int .i64 a.t.y, .int .i64 a.c] 26)).alloc (.cells #[.int .i64 b.f.x, .int .i64 b.f.y, .int .i64 b.t.x, .int .i64 b.t.y, .int .i64 b.c] 26)) = W0 at *)
    obtain ⟨⟨ma0, ma1, ma2, ma3, ma4⟩, ⟨mb0, mb1, mb2, mb3, mb4⟩, hW0, hs0⟩ := M_.out
    clear M_
    go_wp2_with fail
    refine (rpMove_any a _).mono ?_
    rintro e w1 ⟨he, hq⟩
    rw [H1.out] at he
    subst he
    have na0 := keep1 hq ma0
    have na1 := keep1 hq ma1
    have na2 := keep1 hq ma2
    have na3 := keep1 hq ma3
    have na4 := keep1 hq ma4
    have nb0 := keep1 hq mb0
    have nb1 := keep1 hq mb1
    have nb2 := keep1 hq mb2
    have nb3 := keep1 hq mb3
    have nb4 := keep1 hq mb4
    clear ma0 ma1 ma2 ma3 ma4 mb0 mb1 mb2 mb3 mb4
    have hb1 : Below w.heap.size w w1 := by (repeat (first | exact Below.refl _ _ | assumption | (refine Below.alloc ?_ (by first | omega | (simp; done) | (simp; omega)) _) | (refine Below.setCell ?_ (by first | omega | (simp; done) | (simp; omega)) _) | (refine Below.drew ?_) | (refine Below.drewN ?_ _) | (refine Below.next (by assumption) ?_ (by first | omega | (simp; done) | (simp; omega)))))
    have gz1 : w.heap.size < w1.heap.size := World.block_lt_of_cell? _ _ na0
    have gz2 : w.heap.size + 1 < w1.heap.size := World.block_lt_of_cell? _ _ nb0
    clear hq hW0 hs0
  · go_wp2_with fail
    go_ret3
    have hn : ldOk a b p q = false := by rw [e0.out, H1.out]; rfl
    exact ⟨ret_xyb (e1.out hn).1.symm (e1.out hn).2.symm hn.symm, by (repeat (first | exact Below.refl _ _ | assumption | (refine Below.alloc ?_ (by first | omega | (simp; done) | (simp; omega)) _) | (refine Below.setCell ?_ (by first | omega | (simp; done) | (simp; omega)) _) | (refine Below.drew ?_) | (refine Below.drewN ?_ _) | (refine Below.next (by assumption) ?_ (by first | omega | (simp; done) | (simp; omega)))))⟩
  cases h2 : tgOk a b
  all_goals
    have H2 := Lib.hid h2
    clear h2
    go_wp2_with fail
    refine (apGood_any a b _).mono ?_
    rintro e w2 ⟨he, hq⟩
    rw [H2.out] at he
    subst he
    have ka0 := keep1 hq na0
    have ka1 := keep1 hq na1
    have ka2 := keep1 hq na2
    have ka3 := keep1 hq na3
    have ka4 := keep1 hq na4
    have kb0 := keep1 hq nb0
    have kb1 := keep1 hq nb1
    have kb2 := keep1 hq nb2
    have kb3 := keep1 hq nb3
    have kb4 := keep1 hq nb4
    clear na0 na1 na2 na3 na4 nb0 nb1 nb2 nb3 nb4
    have hb2 : Below w.heap.size w w2 := by (repeat (first | exact Below.refl _ _ | assumption | (refine Below.alloc ?_ (by first | omega | (simp; done) | (simp; omega)) _) | (refine Below.setCell ?_ (by first | omega | (simp; done) | (simp; omega)) _) | (refine Below.drew ?_) | (refine Below.drewN ?_ _) | (refine Below.next (by assumption) ?_ (by first | omega | (simp; done) | (simp; omega)))))
    have gz3 := hq.size
    clear hq hb1
  · go_wp2_with fail
    go_ret3
    have hn : ldOk a b p q = false := by rw [e0.out, H1.out, H2.out]; rfl
    exact ⟨ret_xyb (e1.out hn).1.symm (e1.out hn).2.symm hn.symm, by (repeat (first | exact Below.refl _ _ | assumption | (refine Below.alloc ?_ (by first | omega | (simp; done) | (simp; omega)) _) | (refine Below.setCell ?_ (by first | omega | (simp; done) | (simp; omega)) _) | (refine Below.drew ?_) | (refine Below.drewN ?_ _) | (refine Below.next (by assumption) ?_ (by first | omega | (simp; done) | (simp; omega)))))⟩
  cases h3 : inR p 0 4
  all_goals
    have H3 := Lib.hid h3
    clear h3
    go_wp2_with fail
    refine (rpDelay_any p _).mono ?_
    rintro e w3 ⟨he, rfl⟩
    rw [H3.out] at he
    subst he
  · go_wp2_with fail
    go_ret3
    have hn : ldOk a b p q = false := by rw [e0.out, H1.out, H2.out, H3.out]; rfl
    exact ⟨ret_xyb (e1.out hn).1.symm (e1.out hn).2.symm hn.symm, by (repeat (first | exact Below.refl _ _ | assumption | (refine Below.alloc ?_ (by first | omega | (simp; done) | (simp; omega)) _) | (refine Below.setCell ?_ (by first | omega | (simp; done) | (simp; omega)) _) | (refine Below.drew ?_) | (refine Below.drewN ?_ _) | (refine Below.next (by assumption) ?_ (by first | omega | (simp; done) | (simp; omega)))))⟩
  cases h4 : inR q 0 4
  all_goals
    have H4 := Lib.hid h4
    clear h4
    go_wp2_with fail
    refine (rpDelay_any q _).mono ?_
    rintro e w4 ⟨he, rfl⟩
    rw [H4.out] at he
    subst he
  · go_wp2_with fail
    go_ret3
    have hn : ldOk a b p q = false := by rw [e0.out, H1.out, H2.out, H3.out, H4.out]; rfl
    exact ⟨ret_xyb (e1.out hn).1.symm (e1.out hn).2.symm hn.symm, by (repeat (first | exact Below.refl _ _ | assumption | (refine Below.alloc ?_ (by first | omega | (simp; done) | (simp; omega)) _) | (refine Below.setCell ?_ (by first | omega | (simp; done) | (simp; omega)) _) | (refine Below.drew ?_) | (refine Below.drewN ?_ _) | (refine Below.next (by assumption) ?_ (by first | omega | (simp; done) | (simp; omega)))))⟩
  have hy : ldOk a b p q = true := by rw [e0.out, H1.out, H2.out, H3.out, H4.out]; rfl
  have HE := Lib.hid (e2.out hy)
  have HY := Lib.hid hy
  obtain ⟨g1, g2, ⟨p0, p1⟩, ⟨q0, q1⟩⟩ := ldOk_iff.1 hy
  have hma := shMv_ok g1
  have hmb := (tg_ok g2 hma).1
  clear hy g1 g2
  have CR := Lib.hid (fun w => rpFirst_any a b p q hma hmb p0 p1 q0 q1 w)
  clear hma hmb
  go_wp2_with fail
  refine (CR.out _).mono ?_
  rintro e w5 ⟨rfl, hq⟩
  have hb5 : Below w.heap.size w w5 := by (repeat (first | exact Below.refl _ _ | assumption | (refine Below.alloc ?_ (by first | omega | (simp; done) | (simp; omega)) _) | (refine Below.setCell ?_ (by first | omega | (simp; done) | (simp; omega)) _) | (refine Below.drew ?_) | (refine Below.drewN ?_ _) | (refine Below.next (by assumption) ?_ (by first | omega | (simp; done) | (simp; omega)))))
  go_wp2_with fail
  go_ret3
  exact ⟨ret_xyb HE.out.1.symm HE.out.2.symm HY.out.symm, hb5⟩

set_option maxRecDepth 100000 in
set_option maxHeartbeats 3200000 in
theorem impl_LeastDelayed_any (a b : Mv) (p q : Int) (w : World) : Calls Tryz.prog 5 #[.agg #[.int .i64 a.f.x, .int .i64 a.f.y, .int .i64 a.t.x, .int .i64 a.t.y, .int .i64 a.c], .agg #[.int .i64 b.f.x, .int .i64 b.f.y, .int .i64 b.t.x, .int .i64 b.t.y, .int .i64 b.c], .int .i64 p, .int .i64 q] w fun e w' => e = .returned (.tuple #[.int .i64 (ldA a b p q), .int .i64 (ldB a b p q), .bool (ldOk a b p q)]) ∧ Below w.heap.size w w' := by
  have e0 : Hid (ldOk a b p q = ((((shMv a && shMv b) && decide (a.c = b.c)) && inR p 0 4) && inR q 0 4)) := Lib.hid (ldOk_im a b p q)
  have e1 : Hid (ldOk a b p q = false → ldA a b p q = 0 ∧ ldB a b p q = 0) := Lib.hid (fun h => by simp [ldA, ldB, h])
  have e2 : Hid (ldOk a b p q = true → ldA a b p q = ldN a b p q ∧ ldB a b p q = ldD a b p q) := Lib.hid (fun h => by simp [ldA, ldB, h])
  have hW0 : Below w.heap.size w ((w.alloc (.cells #[.int .i64 a.f.x, .int .i64 a.f.y, .int .i64 a.t.x, .int .i64 a.t.y, .int .i64 a.c] 26)).alloc (.cells #[.int .i64 b.f.x, .int .i64 b.f.y, .int .i64 b.t.x, .int .i64 b.t.y, .int .i64 b.c] 26)) := by (repeat (first | exact Below.refl _ _ | assumption | (refine Below.alloc ?_ (by first | omega | (simp; done) | (simp; omega)) _) | (refine Below.setCell ?_ (by first | omega | (simp; done) | (simp; omega)) _) | (refine Below.drew ?_) | (refine Below.drewN ?_ _) | (refine Below.next (by assumption) ?_ (by first | omega | (simp; done) | (simp; omega)))))
  have hs0 : ((w.alloc (.cells #[.int .i64 a.f.x, .int .i64 a.f.y, .int .i64 a.t.x, .int .i64 a.t.y, .int .i64 a.c] 26)).alloc (.cells #[.int .i64 b.f.x, .int .i64 b.f.y, .int .i64 b.t.x, .int .i64 b.t.y, .int .i64 b.c] 26)).heap.size = w.heap.size + 1 + 1 := by simp
  have ma0 : ((w.alloc (.cells #[.int .i64 a.f.x, .int .i64 a.f.y, .int .i64 a.t.x, .int .i64 a.t.y, .int .i64 a.c] 26)).alloc (.cells #[.int .i64 b.f.x, .int .i64 b.f.y, .int .i64 b.t.x, .int .i64 b.t.y, .int .i64 b.c] 26)).cell? ⟨w.heap.size, 0, none⟩ = some (.int .i64 a.f.x) := by simp [go_sem]
  have ma1 : ((w.alloc (.cells #[.int .i64 a.f.x, .int .i64 a.f.y, .int .i64 a.t.x, .int .i64 a.t.y, .int .i64 a.c] 26)).alloc (.cells #[.int .i64 b.f.x, .int .i64 b.f.y, .int .i64 b.t.x, .int .i64 b.t.y, .int .i64 b.c] 26)).cell? ⟨w.heap.size, 1, none⟩ = some (.int .i64 a.f.y) := by simp [go_sem]
  have ma2 : ((w.alloc (.cells #[.int .i64 a.f.x, .int .i64 a.f.y, .int .i64 a.t.x, .int .i64 a.t.y, .int .i64 a.c] 26)).alloc (.cells #[.int .i64 b.f.x, .int .i64 b.f.y, .int .i64 b.t.x, .int .i64 b.t.y, .int .i64 b.c] 26)).cell? ⟨w.heap.size, 2, none⟩ = some (.int .i64 a.t.x) := by simp [go_sem]
  have ma3 : ((w.alloc (.cells #[.int .i64 a.f.x, .int .i64 a.f.y, .int .i64 a.t.x, .int .i64 a.t.y, .int .i64 a.c] 26)).alloc (.cells #[.int .i64 b.f.x, .int .i64 b.f.y, .int .i64 b.t.x, .int .i64 b.t.y, .int .i64 b.c] 26)).cell? ⟨w.heap.size, 3, none⟩ = some (.int .i64 a.t.y) := by simp [go_sem]
  have ma4 : ((w.alloc (.cells #[.int .i64 a.f.x, .int .i64 a.f.y, .int .i64 a.t.x, .int .i64 a.t.y, .int .i64 a.c] 26)).alloc (.cells #[.int .i64 b.f.x, .int .i64 b.f.y, .int .i64 b.t.x, .int .i64 b.t.y, .int .i64 b.c] 26)).cell? ⟨w.heap.size, 4, none⟩ = some (.int .i64 a.c) := by simp [go_sem]
  have mb0 : ((w.alloc (.cells #[.int .i64 a.f.x, .int .i64 a.f.y, .int .i64 a.t.x, .int .i64 a.t.y, .int .i64 a.c] 26)).alloc (.cells #[.int .i64 b.f.x, .int .i64 b.f.y, .int .i64 b.t.x, .int .i64 b.t.y, .int .i64 b.c] 26)).cell? ⟨w.heap.size + 1, 0, none⟩ = some (.int .i64 b.f.x) := by simp [go_sem]
  have mb1 : ((w.alloc (.cells #[.int .i64 a.f.x, .int .i64 a.f.y, .int .i64 a.t.x, .int .i64 a.t.y, .int .i64 a.c] 26)).alloc (.cells #[.int .i64 b.f.x, .int .i64 b.f.y, .int .i64 b.t.x, .int .i64 b.t.y, .int .i64 b.c] 26)).cell? ⟨w.heap.size + 1, 1, none⟩ = some (.int .i64 b.f.y) := by simp [go_sem]
  have mb2 : ((w.alloc (.cells #[.int .i64 a.f.x, .int .i64 a.f.y, .int .i64 a.t.x, .int .i64 a.t.y, .int .i64 a.c] 26)).alloc (.cells #[.int .i64 b.f.x, .int .i64 b.f.y, .int .i64 b.t.x, .int .i64 b.t.y, .int .i64 b.c] 26)).cell? ⟨w.heap.size + 1, 2, none⟩ = some (.int .i64 b.t.x) := by simp [go_sem]
  have mb3 : ((w.alloc (.cells #[.int .i64 a.f.x, .int .i64 a.f.y, .int .i64 a.t.x, .int .i64 a.t.y, .int .i64 a.c] 26)).alloc (.cells #[.int .i64 b.f.x, .int .i64 b.f.y, .int .i64 b.t.x, .int .i64 b.t.y, .int .i64 b.c] 26)).cell? ⟨w.heap.size + 1, 3, none⟩ = some (.int .i64 b.t.y) := by simp [go_sem]
  have mb4 : ((w.alloc (.cells #[.int .i64 a.f.x, .int .i64 a.f.y, .int .i64 a.t.x, .int .i64 a.t.y, .int .i64 a.c] 26)).alloc (.cells #[.int .i64 b.f.x, .int .i64 b.f.y, .int .i64 b.t.x, .int .i64 b.t.y, .int .i64 b.c] 26)).cell? ⟨w.heap.size + 1, 4, none⟩ = some (.int .i64 b.c) := by simp [go_sem]
  have M_ := Lib.hid (show (((w.alloc (.cells #[.int .i64 a.f.x, .int .i64 a.f.y, .int .i64 a.t.x, .int .i64 a.t.y, .int .i64 a.c] 26)).alloc (.cells #[.int .i64 b.f.x, .int .i64 b.f.y, .int .i64 b.t.x, .int .i64 b.t.y, .int .i64 b.c] 26)).cell? ⟨w.heap.size, 0, none⟩ = some (.int .i64 a.f.x) ∧ ((w.alloc (.cells #[.int .i64 a.f.x, .int .i64 a.f.y, .int .i64 a.t.x, .int .i64 a.t.y, .int .i64 a.c] 26)).alloc (.cells #[.int .i64 b.f.x, .int .i64 b.f.y, .int .i64 b.t.x, .int .i64 b.t.y, .int .i64 b.c] 26)).cell? ⟨w.heap.size, 1, none⟩ = some (.int .i64 a.f.y) ∧ ((w.alloc (.cells #[.int .i64 a.f.x, .int .i64 a.f.y, .int .i64 a.t.x, .int .i64 a.t.y, .int .i64 a.c] 26)).alloc (.cells #[.int .i64 b.f.x, .int .i64 b.f.y, .int .i64 b.t.x, .int .i64 b.t.y, .int .i64 b.c] 26)).cell? ⟨w.heap.size, 2, none⟩ = some (.int .i64 a.t.x) ∧ ((w.alloc (.cells #[.int .i64 a.f.x, .int .i64 a.f.y, .int .i64 a.t.x, .int .i64 a.t.y, .int .i64 a.c] 26)).alloc (.cells #[.int .i64 b.f.x, .int .i64 b.f.y, .int .i64 b.t.x, .int .i64 b.t.y, .int .i64 b.c] 26)).cell? ⟨w.heap.size, 3, none⟩ = some (.int .i64 a.t.y) ∧ ((w.alloc (.cells #[.int .i64 a.f.x, .int .i64 a.f.y, .int .i64 a.t.x, .int .i64 a.t.y, .int .i64 a.c] 26)).alloc (.cells #[.int .i64 b.f.x, .int .i64 b.f.y, .int .i64 b.t.x, .int .i64 b.t.y, .int .i64 b.c] 26)).cell? ⟨w.heap.size, 4, none⟩ = some (.int .i64 a.c)) ∧ (((w.alloc (.cells #[.int .i64 a.f.x, .int .i64 a.f.y, .int .i64 a.t.x, .int .i64 a.t.y, .int .i64 a.c] 26)).alloc (.cells #[.int .i64 b.f.x, .int .i64 b.f.y, .int .i64 b.t.x, .int .i64 b.t.y, .int .i64 b.c] 26)).cell? ⟨w.heap.size + 1, 0, none⟩ = some (.int .i64 b.f.x) ∧ ((w.alloc (.cells #[.int .i64 a.f.x, .int .i64 a.f.y, .int .i64 a.t.x, .int .i64 a.t.y, .int .i64 a.c] 26)).alloc (.cells #[.int .i64 b.f.x, .int .i64 b.f.y, .int .i64 b.t.x, .int .i64 b.t.y, .int .i64 b.c] 26)).cell? ⟨w.heap.size + 1, 1, none⟩ = some (.int .i64 b.f.y) ∧ ((w.alloc (.cells #[.int .i64 a.f.x, .int .i64 a.f.y, .int .i64 a.t.x, .int .i64 a.t.y, .int .i64 a.c] 26)).alloc (.cells #[.int .i64 b.f.x, .int .i64 b.f.y, .int .i64 b.t.x, .int .i64 b.t.y, .int .i64 b.c] 26)).cell? ⟨w.heap.size + 1, 2, none⟩ = some (.int .i64 b.t.x) ∧ ((w.alloc (.cells #[.int .i64 a.f.x, .int .i64 a.f.y, .int .i64 a.t.x, .int .i64 a.t.y, .int .i64 a.c] 26)).alloc (.cells #[.int .i64 b.f.x, .int .i64 b.f.y, .int .i64 b.t.x, .int .i64 b.t.y, .int .i64 b.c] 26)).cell? ⟨w.heap.size + 1, 3, none⟩ = some (.int .i64 b.t.y) ∧ ((w.alloc (.cells #[.int .i64 a.f.x, .int .i64 a.f.y, .int .i64 a.t.x, .int .i64 a.t.y, .int .i64 a.c] 26)).alloc (.cells #[.int .i64 b.f.x, .int .i64 b.f.y, .int .i64 b.t.x, .int .i64 b.t.y, .int .i64 b.c] 26)).cell? ⟨w.heap.size + 1, 4, none⟩ = some (.int .i64 b.c)) ∧ Below w.heap.size w ((w.alloc (.cells #[.int .i64 a.f.x, .int .i64 a.f.y, .int .i64 a.t.x, .int .i64 a.t.y, .int .i64 a.c] 26)).alloc (.cells #[.int .i64 b.f.x, .int .i64 b.f.y, .int .i64 b.t.x, .int .i64 b.t.y, .int .i64 b.c] 26)) ∧ ((w.alloc (.cells #[.int .i64 a.f.x, .int .i64 a.f.y, .int .i64 a.t.x, .int .i64 a.t.y, .int .i64 a.c] 26)).alloc (.cells #[.int .i64 b.f.x, .int .i64 b.f.y, .int .i64 b.t.x, .int .i64 b.t.y, .int .i64 b.c] 26)).heap.size = w.heap.size + 1 + 1 from ⟨⟨ma0, ma1, ma2, ma3, ma4⟩, ⟨mb0, mb1, mb2, mb3, mb4⟩, hW0, hs0⟩)
  clear ma0 ma1 ma2 ma3 ma4 mb0 mb1 mb2 mb3 mb4 hW0 hs0
  cases h1 : shMv a
  all_goals
    have H1 := Lib.hid h1
    clear h1
    go_enter Tryz.func5, Tryz.ntmps5
    go_wp2_with fail
    (try generalize ((w.alloc (.cells #[.int .i64 a.f.x, .int .i64 a.f.y, .int .i64 a.t.x, .int .i64 a.t.y, .int .i64 a.c] 26)).alloc (.cells #[.int .i64 b.f.x, .int .i64 b.f.y, .int .i64 b.t.x, .int .i64 b.t.y, .int .i64 b.c] 26)) = W0 at *)
    obtain ⟨⟨ma0, ma1, ma2, ma3, ma4⟩, ⟨mb0, mb1, mb2, mb3, mb4⟩, hW0, hs0⟩ := M_.out
    clear M_
    go_wp2_with fail
    refine (isShortMove_any a _).mono ?_
    rintro e w1 ⟨he, hq⟩
    rw [H1.out] at he
    subst he
    have na0 := keep1 hq ma0
    have na1 := keep1 hq ma1
    have na2 := keep1 hq ma2
    have na3 := keep1 hq ma3
    have na4 := keep1 hq ma4
    have nb0 := keep1 hq mb0
    have nb1 := keep1 hq mb1
    have nb2 := keep1 hq mb2
    have nb3 := keep1 hq mb3
    have nb4 := keep1 hq mb4
    clear ma0 ma1 ma2 ma3 ma4 mb0 mb1 mb2 mb3 mb4
    have hb1 : Below w.heap.size w w1 := by (repeat (first | exact Below.refl _ _ | assumption | (refine Below.alloc ?_ (by first | omega | (simp; done) | (simp; omega)) _) | (refine Below.setCell ?_ (by first | omega | (simp; done) | (simp; omega)) _) | (refine Below.drew ?_) | (refine Below.drewN ?_ _) | (refine Below.next (by assumption) ?_ (by first | omega | (simp; done) | (simp; omega)))))
    have gz1 : w.heap.size < w1.heap.size := World.block_lt_of_cell? _ _ na0
    have gz2 : w.heap.size + 1 < w1.heap.size := World.block_lt_of_cell? _ _ nb0
    clear hq hW0 hs0
  · go_wp2_with fail
    go_ret3
    have hn : ldOk a b p q = false := by rw [e0.out, H1.out]; rfl
    exact ⟨ret_xyb (e1.out hn).1.symm (e1.out hn).2.symm hn.symm, by (repeat (first | exact Below.refl _ _ | assumption | (refine Below.alloc ?_ (by first | omega | (simp; done) | (simp; omega)) _) | (refine Below.setCell ?_ (by first | omega | (simp; done) | (simp; omega)) _) | (refine Below.drew ?_) | (refine Below.drewN ?_ _) | (refine Below.next (by assumption) ?_ (by first | omega | (simp; done) | (simp; omega)))))⟩
  cases h2 : shMv b
  all_goals
    have H2 := Lib.hid h2
    clear h2
    go_wp2_with fail
    refine (isShortMove_any b _).mono ?_
    rintro e w2 ⟨he, hq⟩
    rw [H2.out] at he
    subst he
    have ka0 := keep1 hq na0
    have ka1 := keep1 hq na1
    have ka2 := keep1 hq na2
    have ka3 := keep1 hq na3
    have ka4 := keep1 hq na4
    have kb0 := keep1 hq nb0
    have kb1 := keep1 hq nb1
    have kb2 := keep1 hq nb2
    have kb3 := keep1 hq nb3
    have kb4 := keep1 hq nb4
    clear na0 na1 na2 na3 na4 nb0 nb1 nb2 nb3 nb4
    have hb2 : Below w.heap.size w w2 := by (repeat (first | exact Below.refl _ _ | assumption | (refine Below.alloc ?_ (by first | omega | (simp; done) | (simp; omega)) _) | (refine Below.setCell ?_ (by first | omega | (simp; done) | (simp; omega)) _) | (refine Below.drew ?_) | (refine Below.drewN ?_ _) | (refine Below.next (by assumption) ?_ (by first | omega | (simp; done) | (simp; omega)))))
    have gz3 := hq.size
    clear hq hb1
  · go_wp2_with fail
    go_ret3
    have hn : ldOk a b p q = false := by rw [e0.out, H1.out, H2.out]; rfl
    exact ⟨ret_xyb (e1.out hn).1.symm (e1.out hn).2.symm hn.symm, by (repeat (first | exact Below.refl _ _ | assumption | (refine Below.alloc ?_ (by first | omega | (simp; done) | (simp; omega)) _) | (refine Below.setCell ?_ (by first | omega | (simp; done) | (simp; omega)) _) | (refine Below.drew ?_) | (refine Below.drewN ?_ _) | (refine Below.next (by assumption) ?_ (by first | omega | (simp; done) | (simp; omega)))))⟩
  by_cases hab : a.c = b.c
  case neg =>
    have hne : (a.c == b.c) = false := beq_eq_false_iff_ne.2 hab
    have hne2 : (a.c != b.c) = true := by simp [bne, hne]
    have HD := Lib.hid (show decide (a.c = b.c) = false from decide_eq_false hab)
    clear hab
    go_wp2_with fail
    go_ret3
    have hn : ldOk a b p q = false := by rw [e0.out, H1.out, H2.out, HD.out]; rfl
    exact ⟨ret_xyb (e1.out hn).1.symm (e1.out hn).2.symm hn.symm, by (repeat (first | exact Below.refl _ _ | assumption | (refine Below.alloc ?_ (by first | omega | (simp; done) | (simp; omega)) _) | (refine Below.setCell ?_ (by first | omega | (simp; done) | (simp; omega)) _) | (refine Below.drew ?_) | (refine Below.drewN ?_ _) | (refine Below.next (by assumption) ?_ (by first | omega | (simp; done) | (simp; omega)))))⟩
  have HD := Lib.hid (show decide (a.c = b.c) = true from decide_eq_true hab)
  have HAB := Lib.hid hab
  have hne : (a.c == b.c) = true := beq_iff_eq.2 hab
  have hne2 : (a.c != b.c) = false := by simp [bne, hne]
  clear hab
  cases h3 : inR p 0 4
  all_goals
    have H3 := Lib.hid h3
    clear h3
    go_wp2_with fail
    refine (isDelay_any p _).mono ?_
    rintro e w3 ⟨he, rfl⟩
    rw [H3.out] at he
    subst he
  · go_wp2_with fail
    go_ret3
    have hn : ldOk a b p q = false := by rw [e0.out, H1.out, H2.out, HD.out, H3.out]; rfl
    exact ⟨ret_xyb (e1.out hn).1.symm (e1.out hn).2.symm hn.symm, by (repeat (first | exact Below.refl _ _ | assumption | (refine Below.alloc ?_ (by first | omega | (simp; done) | (simp; omega)) _) | (refine Below.setCell ?_ (by first | omega | (simp; done) | (simp; omega)) _) | (refine Below.drew ?_) | (refine Below.drewN ?_ _) | (refine Below.next (by assumption) ?_ (by first | omega | (simp; done) | (simp; omega)))))⟩
  cases h4 : inR q 0 4
  all_goals
    have H4 := Lib.hid h4
    clear h4
    go_wp2_with fail
    refine (isDelay_any q _).mono ?_
    rintro e w4 ⟨he, rfl⟩
    rw [H4.out] at he
    subst he
  · go_wp2_with fail
    go_ret3
    have hn : ldOk a b p q = false := by rw [e0.out, H1.out, H2.out, HD.out, H3.out, H4.out]; rfl
    exact ⟨ret_xyb (e1.out hn).1.symm (e1.out hn).2.symm hn.symm, by (repeat (first | exact Below.refl _ _ | assumption | (refine Below.alloc ?_ (by first | omega | (simp; done) | (simp; omega)) _) | (refine Below.setCell ?_ (by first | omega | (simp; done) | (simp; omega)) _) | (refine Below.drew ?_) | (refine Below.drewN ?_ _) | (refine Below.next (by assumption) ?_ (by first | omega | (simp; done) | (simp; omega)))))⟩
  have hy : ldOk a b p q = true := by rw [e0.out, H1.out, H2.out, HD.out, H3.out, H4.out]; rfl
  have HE := Lib.hid (e2.out hy)
  have HY := Lib.hid hy
  obtain ⟨g1, g2, ⟨p0, p1⟩, ⟨q0, q1⟩⟩ := ldOk_iff.1 hy
  have hma := shMv_ok g1
  have hmb := (tg_ok g2 hma).1
  clear hy g1 g2
  have CR := Lib.hid (fun w => leastDelayed_any a b p q hma hmb p0 p1 q0 q1 w)
  have HI := Lib.hid (fun (t u : Int) (h : imF (xx a b p q) (yy a b p q) (cntK a p q) = (t, u)) => ld_im (q := q) hma p0 h)
  clear hma hmb
  go_wp2_with fail
  refine (CR.out _).mono ?_
  rintro e w5 ⟨n, d, t, u, rfl, rfl, rfl, him, hq⟩
  have hb5 : Below w.heap.size w w5 := by (repeat (first | exact Below.refl _ _ | assumption | (refine Below.alloc ?_ (by first | omega | (simp; done) | (simp; omega)) _) | (refine Below.setCell ?_ (by first | omega | (simp; done) | (simp; omega)) _) | (refine Below.drew ?_) | (refine Below.drewN ?_ _) | (refine Below.next (by assumption) ?_ (by first | omega | (simp; done) | (simp; omega)))))
  rw [(HI.out _ _ him).1, (HI.out _ _ him).2]
  clear him
  go_wp2_with fail
  go_ret3
  exact ⟨ret_xyb HE.out.1.symm HE.out.2.symm HY.out.symm, hb5⟩
end Go.Proofs.YthehcjfljjfnmaaGreat
