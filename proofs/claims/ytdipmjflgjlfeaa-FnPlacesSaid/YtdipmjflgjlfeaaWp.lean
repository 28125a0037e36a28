/-
  WorstPair: the contracts of the program's and of the reference's.
-/
import Derived.Test.YtdipmjflgjlfeaaSndd
import Derived.Deep.RegionHeld3
namespace Go.Proofs.Ytdipmjflgjlfeaa
open Go.RowKit Go.Sort

/-- The square of two spots of a list. -/
def sqAt (L : List Sp) (i k : Nat) : Int := sq (L.getD i ⟨0, 0⟩) (L.getD k ⟨0, 0⟩)
theorem sqAt_eq {L : List Sp} {i k : Nat} {a b : Sp} (h : L[i]? = some a) (h' : L[k]? = some b) : sqAt L i k = sq a b := by simp [sqAt, h, h']
/-- The reference's state behind so many of the spots that follow spot i: the pair, and its square. -/
def wpK (L : List Sp) (i : Nat) (st : Nat × Nat × Int) : Nat → Nat × Nat × Int
  | 0 => st
  | j + 1 => let p := wpK L i st j; if p.2.2 < sqAt L i (i + 1 + j) then (i, i + 1 + j, sqAt L i (i + 1 + j)) else p
def wpI (L : List Sp) : Nat → Nat × Nat × Int
  | 0 => (0, 1, -1)
  | i + 1 => wpK L i (wpI L i) (L.length - (i + 1))
/-- The program's. -/
def wqK (L : List Sp) (i : Nat) (st : Nat × Nat) : Nat → Nat × Nat
  | 0 => st
  | j + 1 => let p := wqK L i st j; if sqAt L p.1 p.2 < sqAt L i (i + 1 + j) then (i, i + 1 + j) else p
def wqI (L : List Sp) : Nat → Nat × Nat
  | 0 => (0, 1)
  | i + 1 => wqK L i (wqI L i) (L.length - (i + 1))

theorem wp_K {L : List Sp} {i : Nat} {st : Nat × Nat × Int} {p : Nat × Nat} (h : st = (p.1, p.2, sqAt L p.1 p.2)) (j : Nat) : wpK L i st j = ((wqK L i p j).1, (wqK L i p j).2, sqAt L (wqK L i p j).1 (wqK L i p j).2) := by
  induction j with
  | zero => exact h
  | succ j ih =>
    simp only [wpK, wqK, ih]
    split <;> rfl
theorem wp_first {L : List Sp} (h0 : 0 ≤ sqAt L 0 1) (j : Nat) : wpK L 0 (0, 1, -1) (j + 1) = ((wqK L 0 (0, 1) (j + 1)).1, (wqK L 0 (0, 1) (j + 1)).2, sqAt L (wqK L 0 (0, 1) (j + 1)).1 (wqK L 0 (0, 1) (j + 1)).2) := by
  induction j with
  | zero =>
    have : (-1 : Int) < sqAt L 0 1 := by omega
    simp [wpK, wqK, this]
  | succ j ih =>
    rw [wpK, wqK]
    simp only [ih]
    split <;> rfl
theorem wp_I {L : List Sp} (h0 : 0 ≤ sqAt L 0 1) (h : 2 ≤ L.length) (i : Nat) : wpI L (i + 1) = ((wqI L (i + 1)).1, (wqI L (i + 1)).2, sqAt L (wqI L (i + 1)).1 (wqI L (i + 1)).2) := by
  induction i with
  | zero =>
    rw [wpI, wqI, wpI, wqI]
    obtain ⟨j, hj⟩ : ∃ j, L.length - (0 + 1) = j + 1 := ⟨L.length - 2, by omega⟩
    rw [hj]
    exact wp_first h0 j
  | succ i ih =>
    rw [wpI, wqI]
    exact wp_K ih _
theorem wqK_lt {L : List Sp} {i : Nat} {p : Nat × Nat} (hp : p.1 < L.length ∧ p.2 < L.length) : ∀ j, i + 1 + j ≤ L.length → (wqK L i p j).1 < L.length ∧ (wqK L i p j).2 < L.length
  | 0, _ => hp
  | j + 1, h => by
    have := wqK_lt (i := i) hp j (by omega)
    simp only [wqK]
    split
    · exact ⟨(by omega : i < L.length), (by omega : i + 1 + j < L.length)⟩
    · exact this
theorem sqAt_nonneg {L : List Sp} (h : L.all isSp = true) {i k : Nat} (hi : i < L.length) (hk : k < L.length) : 0 ≤ sqAt L i k ∧ sqAt L i k ≤ 2089984 := by
  obtain ⟨a, ha⟩ := some_of_lt hi
  obtain ⟨b, hb⟩ := some_of_lt hk
  rw [sqAt_eq ha hb]
  exact sq_bd (all_at h ha) (all_at h hb)
def wpOk (L : List Sp) : Bool := srcOk L && decide (2 ≤ L.length)
def wp1 (L : List Sp) : Int := if wpOk L then ((wpI L L.length).1 : Int) else 0
def wp2 (L : List Sp) : Int := if wpOk L then ((wpI L L.length).2.1 : Int) else 0
theorem wpOk_iff {L : List Sp} : wpOk L = true ↔ srcOk L = true ∧ 2 ≤ L.length := by simp [wpOk]

set_option maxHeartbeats 1600000 in
set_option maxRecDepth 100000 in
theorem spec_WorstPair_any (A : Option Addr) (c : Nat) (L : List Sp) (w : World) (hm : Mem w A (spots L)) (hl : L.length ≤ 1048576) : Calls Try.prog 35 #[.slice A L.length c] w fun e w' =>
    e = .returned (.tuple #[.int .i64 (wp1 L), .int .i64 (wp2 L), .bool (wpOk L)]) ∧ Below w.heap.size w w' := by
  cases h1 : srcOk L
  · go_enter Try.func35, Try.ntmps35
    go_wp2_with (go_at_call 83; refine (snList_any _ _ L _ (hm.below (by (repeat (first | exact Below.refl _ _ | assumption | (refine Below.alloc ?_ (by first | omega | (simp; done) | (simp; omega)) _) | (refine Below.setCell ?_ (by first | omega | (simp; done) | (simp; omega)) _) | (refine Below.drew ?_) | (refine Below.drewN ?_ _) | (refine Below.next (by assumption) ?_ (by first | omega | (simp; done) | (simp; omega))))))) hl).mono ?_; rintro e w' ⟨rfl, hq⟩; obtain ⟨hz, hc, hf⟩ := bel hq; (try simp at hz); (try have gz1 : w.heap.size < w'.heap.size := by omega); (try have gz2 : w.heap.size + 1 < w'.heap.size := by omega); (try have gz3 : wr.heap.size < w'.heap.size := by omega))
    go_ret3
    exact ⟨ret_three (by simp [wp1, wpOk, h1]) (by simp [wp2, wpOk, h1]) (by simp [wpOk, h1]), by (repeat (first | exact Below.refl _ _ | assumption | (refine Below.alloc ?_ (by first | omega | (simp; done) | (simp; omega)) _) | (refine Below.setCell ?_ (by first | omega | (simp; done) | (simp; omega)) _) | (refine Below.drew ?_) | (refine Below.drewN ?_ _) | (refine Below.next (by assumption) ?_ (by first | omega | (simp; done) | (simp; omega)))))⟩
  obtain ⟨g1, g2, g3⟩ := srcOk_iff.1 h1
  by_cases h2 : L.length < 2
  · go_enter Try.func35, Try.ntmps35
    go_wp2_with (go_at_call 83; refine (snList_any _ _ L _ (hm.below (by (repeat (first | exact Below.refl _ _ | assumption | (refine Below.alloc ?_ (by first | omega | (simp; done) | (simp; omega)) _) | (refine Below.setCell ?_ (by first | omega | (simp; done) | (simp; omega)) _) | (refine Below.drew ?_) | (refine Below.drewN ?_ _) | (refine Below.next (by assumption) ?_ (by first | omega | (simp; done) | (simp; omega))))))) hl).mono ?_; rintro e w' ⟨rfl, hq⟩; obtain ⟨hz, hc, hf⟩ := bel hq; (try simp at hz); (try have gz1 : w.heap.size < w'.heap.size := by omega); (try have gz2 : w.heap.size + 1 < w'.heap.size := by omega); (try have gz3 : wr.heap.size < w'.heap.size := by omega))
    go_ret3
    exact ⟨ret_three (by simp [wp1, wpOk, h1]; omega) (by simp [wp2, wpOk, h1]; omega) (by simp [wpOk, h1]; omega), by (repeat (first | exact Below.refl _ _ | assumption | (refine Below.alloc ?_ (by first | omega | (simp; done) | (simp; omega)) _) | (refine Below.setCell ?_ (by first | omega | (simp; done) | (simp; omega)) _) | (refine Below.drew ?_) | (refine Below.drewN ?_ _) | (refine Below.next (by assumption) ?_ (by first | omega | (simp; done) | (simp; omega)))))⟩
  have hok : wpOk L = true := wpOk_iff.2 ⟨h1, by omega⟩
  have HV : Hid (wp1 L = ((wpI L L.length).1 : Int) ∧ wp2 L = ((wpI L L.length).2.1 : Int) ∧ wpOk L = true) := Lib.hid ⟨by simp [wp1, hok], by simp [wp2, hok], hok⟩
  clear hok
  go_enter Try.func35, Try.ntmps35
  go_wp2_with (go_at_call 83; refine (snList_any _ _ L _ (hm.below (by (repeat (first | exact Below.refl _ _ | assumption | (refine Below.alloc ?_ (by first | omega | (simp; done) | (simp; omega)) _) | (refine Below.setCell ?_ (by first | omega | (simp; done) | (simp; omega)) _) | (refine Below.drew ?_) | (refine Below.drewN ?_ _) | (refine Below.next (by assumption) ?_ (by first | omega | (simp; done) | (simp; omega))))))) hl).mono ?_; rintro e w' ⟨rfl, hq⟩; obtain ⟨hz, hc, hf⟩ := bel hq; (try simp at hz); (try have gz1 : w.heap.size < w'.heap.size := by omega); (try have gz2 : w.heap.size + 1 < w'.heap.size := by omega); (try have gz3 : wr.heap.size < w'.heap.size := by omega))
  have hb2 : Below w.heap.size w w' := by (repeat (first | exact Below.refl _ _ | assumption | (refine Below.alloc ?_ (by first | omega | (simp; done) | (simp; omega)) _) | (refine Below.setCell ?_ (by first | omega | (simp; done) | (simp; omega)) _) | (refine Below.drew ?_) | (refine Below.drewN ?_ _) | (refine Below.next (by assumption) ?_ (by first | omega | (simp; done) | (simp; omega)))))
  have HG := Lib.hid g1
  clear h1 g1 hq hz hc hf
  go_loopw [5, 6, 7, 8, 9, 10, 11, 22] (fun f s m _ _ _ _ i wr => ∃ k x y : Nat, ∃ z : Int, k ≤ L.length ∧ i = .int .i64 k ∧ f = .int .i64 x ∧ s = .int .i64 y ∧ m = .int .i64 z ∧ Below w.heap.size w wr ∧ Hid (wpI L k = (x, y, z))) (fun _ _ _ _ _ _ _ i _ => L.length - (intOf i).toNat)
  case atStart => exact ⟨0, 0, 1, -1, by omega, rfl, rfl, rfl, rfl, hb2, Lib.hid rfl⟩
  case round =>
    obtain ⟨k, x, y, z, hk, rfl, rfl, rfl, rfl, hb, H⟩ := hrel
    by_cases hlt : k < L.length
    · obtain ⟨s, hs⟩ := some_of_lt hlt
      obtain ⟨b, off, rfl, e1, e2⟩ := (hm.below hb).spot hs
      have hbl : b < wr.heap.size := World.block_lt_of_cell? wr _ e1
      have hsg := all_at HG.out hs
      have HS := Lib.hid hs
      have hsz := hb.size
      clear hs
      rename World => W0
      go_wp2
      have hb3 : Below w.heap.size w (W0.alloc (.cells #[.int .i64 s.x, .int .i64 s.y] 25)) := hb.alloc (by omega) _
      go_loopw [5, 6, 7, 10, 11] (fun f s' m j _ wr => ∃ q x y : Nat, ∃ z : Int, k + 1 ≤ q ∧ q ≤ L.length ∧ j = .int .i64 q ∧ f = .int .i64 x ∧ s' = .int .i64 y ∧ m = .int .i64 z ∧ Below w.heap.size w wr ∧ W0.heap.size < wr.heap.size ∧ (wr.cell? ⟨W0.heap.size, 0, none⟩ = some (.int .i64 s.x) ∧ wr.cell? ⟨W0.heap.size, 1, none⟩ = some (.int .i64 s.y)) ∧ Hid (wpK L k (wpI L k) (q - (k + 1)) = (x, y, z))) (fun _ _ _ j _ _ => L.length - (intOf j).toNat)
      case atStart => exact ⟨k + 1, x, y, z, by omega, by omega, by go_num, rfl, rfl, rfl, hb3, by simp, by simp [go_sem], Lib.hid (by rw [Nat.sub_self]; exact H.out)⟩
      case round =>
        obtain ⟨q, x, y, z, hq0, hq, rfl, rfl, rfl, rfl, hb4, hlt2, ⟨c1, c2⟩, H2⟩ := hrel
        by_cases hlt3 : q < L.length
        · obtain ⟨u, hu⟩ := some_of_lt hlt3
          obtain ⟨b2, off2, e0, e3, e4⟩ := (hm.below hb4).spot hu
          obtain ⟨rfl, rfl⟩ : b = b2 ∧ off = off2 := by simpa using e0
          have hug := all_at HG.out hu
          have hstep : wpK L k (wpI L k) (q + 1 - (k + 1)) = if z < sq s u then (k, q, sq s u) else (x, y, z) := by
            rw [show q + 1 - (k + 1) = q - (k + 1) + 1 by omega, wpK, H2.out, show k + 1 + (q - (k + 1)) = q by omega, sqAt_eq HS.out hu]
          have HST := Lib.hid hstep
          have hsz2 := hb4.size
          have k1 := cell_regrown (w := wr) (a := ⟨W0.heap.size, 0, none⟩) (v := .int .i64 s.x) c1
          have k2 := cell_regrown (w := wr) (a := ⟨W0.heap.size, 1, none⟩) (v := .int .i64 s.y) c2
          have k5 := cell_regrown (w := wr) e3
          have k6 := cell_regrown (w := wr) e4
          have cc : ∀ dd os, Calls Try.prog 91 #[.agg #[.int .i64 s.x, .int .i64 s.y], .agg #[.int .i64 u.x, .int .i64 u.y]] (grow (redrawn wr dd) os) fun e w'' => e = .returned (.int .i64 (sq s u)) ∧ ∃ p : Regrown, w'' = grow (redrawn wr p.d) p.os :=
            fun dd os => Calls.regrown_of ((stSquare_any s u hsg hug _).mono (by rintro e w' ⟨rfl, o1, o2, rfl⟩; exact ⟨rfl, ((Below.refl _ _).alloc (Nat.le_refl _) _).alloc (by simp) _⟩))
          have C1 := Lib.hid cc
          clear hu e0 hstep cc
          by_cases hcmp : z < sq s u
          all_goals
            go_wp2
            refine wp_region_quiet_below (by kernel_rfl) (by kernel_rfl) ?_
            repeat (quiet_step (exact C1.out _ _))
            refine wpQuiet_nil ?_
            intro _ hw'
            obtain ⟨⟨dq, osq⟩, hw''⟩ := hw'
            subst hw''
            have hb5 := below_regrown wr dq osq
            have hz5 := hb5.size
            go_wp2
            go_roundw
            case rel => first | exact ⟨q + 1, k, q, sq s u, by omega, by omega, by go_num, rfl, by go_num, rfl, by (repeat (first | exact Below.refl _ _ | assumption | (refine Below.alloc ?_ (by first | omega | (simp; done) | (simp; omega)) _) | (refine Below.setCell ?_ (by first | omega | (simp; done) | (simp; omega)) _) | (refine Below.drew ?_) | (refine Below.drewN ?_ _) | (refine Below.next (by assumption) ?_ (by first | omega | (simp; done) | (simp; omega))))), by omega, keep2 hb5 ⟨c1, c2⟩, Lib.hid (by rw [HST.out, if_pos (by omega)])⟩ | exact ⟨q + 1, x, y, z, by omega, by omega, by go_num, rfl, rfl, rfl, by (repeat (first | exact Below.refl _ _ | assumption | (refine Below.alloc ?_ (by first | omega | (simp; done) | (simp; omega)) _) | (refine Below.setCell ?_ (by first | omega | (simp; done) | (simp; omega)) _) | (refine Below.drew ?_) | (refine Below.drewN ?_ _) | (refine Below.next (by assumption) ?_ (by first | omega | (simp; done) | (simp; omega))))), by omega, keep2 hb5 ⟨c1, c2⟩, Lib.hid (by rw [HST.out, if_neg (by omega)])⟩
            case measure => simp [intOf]; omega
        · go_wp2
          go_roundw
          case rel => exact ⟨k + 1, x, y, z, by omega, by go_num, rfl, rfl, rfl, hb4, Lib.hid (by rw [wpI, ← H2.out, show L.length = q by omega])⟩
          case measure => simp [intOf]; omega
    · go_wp2
      go_ret3
      have e1 : k = L.length := by omega
      subst e1
      exact ⟨ret_three (by rw [HV.out.1, H.out]) (by rw [HV.out.2.1, H.out]) HV.out.2.2.symm, hb⟩
set_option maxHeartbeats 3200000 in
set_option maxRecDepth 100000 in
theorem impl_WorstPair_any (A : Option Addr) (c : Nat) (L : List Sp) (w : World) (hm : Mem w A (spots L)) (hl : L.length ≤ 1048576) : Calls Try.prog 34 #[.slice A L.length c] w fun e w' =>
    e = .returned (.tuple #[.int .i64 (wp1 L), .int .i64 (wp2 L), .bool (wpOk L)]) ∧ Below w.heap.size w w' := by
  cases h1 : srcOk L
  · go_enter Try.func34, Try.ntmps34
    go_wp2_with (go_at_call 80; refine (areSources_any _ _ L _ (hm.below (by (repeat (first | exact Below.refl _ _ | assumption | (refine Below.alloc ?_ (by first | omega | (simp; done) | (simp; omega)) _) | (refine Below.setCell ?_ (by first | omega | (simp; done) | (simp; omega)) _) | (refine Below.drew ?_) | (refine Below.drewN ?_ _) | (refine Below.next (by assumption) ?_ (by first | omega | (simp; done) | (simp; omega))))))) hl).mono ?_; rintro e w' ⟨rfl, hq⟩; obtain ⟨hz, hc, hf⟩ := bel hq; (try simp at hz); (try have gz1 : w.heap.size < w'.heap.size := by omega); (try have gz2 : w.heap.size + 1 < w'.heap.size := by omega); (try have gz3 : wr.heap.size < w'.heap.size := by omega))
    go_ret3
    exact ⟨ret_three (by simp [wp1, wpOk, h1]) (by simp [wp2, wpOk, h1]) (by simp [wpOk, h1]), by (repeat (first | exact Below.refl _ _ | assumption | (refine Below.alloc ?_ (by first | omega | (simp; done) | (simp; omega)) _) | (refine Below.setCell ?_ (by first | omega | (simp; done) | (simp; omega)) _) | (refine Below.drew ?_) | (refine Below.drewN ?_ _) | (refine Below.next (by assumption) ?_ (by first | omega | (simp; done) | (simp; omega)))))⟩
  obtain ⟨g1, g2, g3⟩ := srcOk_iff.1 h1
  by_cases h2 : L.length < 2
  · go_enter Try.func34, Try.ntmps34
    go_wp2_with (go_at_call 80; refine (areSources_any _ _ L _ (hm.below (by (repeat (first | exact Below.refl _ _ | assumption | (refine Below.alloc ?_ (by first | omega | (simp; done) | (simp; omega)) _) | (refine Below.setCell ?_ (by first | omega | (simp; done) | (simp; omega)) _) | (refine Below.drew ?_) | (refine Below.drewN ?_ _) | (refine Below.next (by assumption) ?_ (by first | omega | (simp; done) | (simp; omega))))))) hl).mono ?_; rintro e w' ⟨rfl, hq⟩; obtain ⟨hz, hc, hf⟩ := bel hq; (try simp at hz); (try have gz1 : w.heap.size < w'.heap.size := by omega); (try have gz2 : w.heap.size + 1 < w'.heap.size := by omega); (try have gz3 : wr.heap.size < w'.heap.size := by omega))
    go_ret3
    exact ⟨ret_three (by simp [wp1, wpOk, h1]; omega) (by simp [wp2, wpOk, h1]; omega) (by simp [wpOk, h1]; omega), by (repeat (first | exact Below.refl _ _ | assumption | (refine Below.alloc ?_ (by first | omega | (simp; done) | (simp; omega)) _) | (refine Below.setCell ?_ (by first | omega | (simp; done) | (simp; omega)) _) | (refine Below.drew ?_) | (refine Below.drewN ?_ _) | (refine Below.next (by assumption) ?_ (by first | omega | (simp; done) | (simp; omega)))))⟩
  have hok : wpOk L = true := wpOk_iff.2 ⟨h1, by omega⟩
  have hI := wp_I (sqAt_nonneg g1 (by omega) (by omega)).1 (by omega : 2 ≤ L.length) (L.length - 1)
  rw [show L.length - 1 + 1 = L.length by omega] at hI
  have HV : Hid (wp1 L = ((wqI L L.length).1 : Int) ∧ wp2 L = ((wqI L L.length).2 : Int) ∧ wpOk L = true) := Lib.hid ⟨by simp [wp1, hok, hI], by simp [wp2, hok, hI], hok⟩
  clear hok hI
  go_enter Try.func34, Try.ntmps34
  go_wp2_with (go_at_call 80; refine (areSources_any _ _ L _ (hm.below (by (repeat (first | exact Below.refl _ _ | assumption | (refine Below.alloc ?_ (by first | omega | (simp; done) | (simp; omega)) _) | (refine Below.setCell ?_ (by first | omega | (simp; done) | (simp; omega)) _) | (refine Below.drew ?_) | (refine Below.drewN ?_ _) | (refine Below.next (by assumption) ?_ (by first | omega | (simp; done) | (simp; omega))))))) hl).mono ?_; rintro e w' ⟨rfl, hq⟩; obtain ⟨hz, hc, hf⟩ := bel hq; (try simp at hz); (try have gz1 : w.heap.size < w'.heap.size := by omega); (try have gz2 : w.heap.size + 1 < w'.heap.size := by omega); (try have gz3 : wr.heap.size < w'.heap.size := by omega))
  have hb2 : Below w.heap.size w w' := by (repeat (first | exact Below.refl _ _ | assumption | (refine Below.alloc ?_ (by first | omega | (simp; done) | (simp; omega)) _) | (refine Below.setCell ?_ (by first | omega | (simp; done) | (simp; omega)) _) | (refine Below.drew ?_) | (refine Below.drewN ?_ _) | (refine Below.next (by assumption) ?_ (by first | omega | (simp; done) | (simp; omega)))))
  have HG := Lib.hid g1
  clear h1 g1 hq hz hc hf
  go_loopw [5, 6, 7, 8, 19] (fun f s _ _ i wr => ∃ k x y : Nat, k ≤ L.length ∧ x < L.length ∧ y < L.length ∧ i = .int .i64 k ∧ f = .int .i64 x ∧ s = .int .i64 y ∧ Below w.heap.size w wr ∧ Hid (wqI L k = (x, y))) (fun _ _ _ _ i _ => L.length - (intOf i).toNat)
  case atStart => exact ⟨0, 0, 1, by omega, by omega, by omega, rfl, rfl, rfl, hb2, Lib.hid rfl⟩
  case round =>
    obtain ⟨k, x, y, hk, hx, hy, rfl, rfl, rfl, hb, H⟩ := hrel
    by_cases hlt : k < L.length
    · obtain ⟨s, hs⟩ := some_of_lt hlt
      have hsg := all_at HG.out hs
      have HS := Lib.hid hs
      have hsz := hb.size
      clear hs
      go_wp2
      go_loopw [5, 6, 8] (fun f s' j wr => ∃ q x y : Nat, k + 1 ≤ q ∧ q ≤ L.length ∧ x < L.length ∧ y < L.length ∧ j = .int .i64 q ∧ f = .int .i64 x ∧ s' = .int .i64 y ∧ Below w.heap.size w wr ∧ Hid (wqK L k (wqI L k) (q - (k + 1)) = (x, y))) (fun _ _ j _ => L.length - (intOf j).toNat)
      case atStart => exact ⟨k + 1, x, y, by omega, by omega, hx, hy, by go_num, rfl, rfl, hb, Lib.hid (by rw [Nat.sub_self]; exact H.out)⟩
      case round =>
        obtain ⟨q, x, y, hq0, hq, hx, hy, rfl, rfl, rfl, hb4, H2⟩ := hrel
        by_cases hlt3 : q < L.length
        · obtain ⟨u, hu⟩ := some_of_lt hlt3
          obtain ⟨p1, hp1⟩ := some_of_lt hx
          obtain ⟨p2, hp2⟩ := some_of_lt hy
          obtain ⟨b, off, rfl, e1, e2⟩ := (hm.below hb4).spot HS.out
          obtain ⟨b2, off2, e0, e3, e4⟩ := (hm.below hb4).spot hu
          obtain ⟨rfl, rfl⟩ : b = b2 ∧ off = off2 := by simpa using e0
          obtain ⟨b2, off2, e0', e5, e6⟩ := (hm.below hb4).spot hp1
          obtain ⟨rfl, rfl⟩ : b = b2 ∧ off = off2 := by simpa using e0'
          obtain ⟨b2, off2, e0'', e7, e8⟩ := (hm.below hb4).spot hp2
          obtain ⟨rfl, rfl⟩ : b = b2 ∧ off = off2 := by simpa using e0''
          have hug := all_at HG.out hu
          have hg1 := all_at HG.out hp1
          have hg2 := all_at HG.out hp2
          have hstep : wqK L k (wqI L k) (q + 1 - (k + 1)) = if sq p1 p2 < sq s u then (k, q) else (x, y) := by
            rw [show q + 1 - (k + 1) = q - (k + 1) + 1 by omega, wqK, H2.out, show k + 1 + (q - (k + 1)) = q by omega, sqAt_eq HS.out hu]
            show (if sqAt L x y < _ then _ else _) = _
            rw [sqAt_eq hp1 hp2]
          have HST := Lib.hid hstep
          have hsz2 := hb4.size
          have k1 := cell_regrown (w := wr) e1
          have k2 := cell_regrown (w := wr) e2
          have k3 := cell_regrown (w := wr) e3
          have k4 := cell_regrown (w := wr) e4
          have k5 := cell_regrown (w := wr) e5
          have k6 := cell_regrown (w := wr) e6
          have k7 := cell_regrown (w := wr) e7
          have k8 := cell_regrown (w := wr) e8
          have cc : ∀ t v : Sp, isSp t = true → isSp v = true → ∀ dd os, Calls Try.prog 77 #[.agg #[.int .i64 t.x, .int .i64 t.y], .agg #[.int .i64 v.x, .int .i64 v.y]] (grow (redrawn wr dd) os) fun e w'' => e = .returned (.int .i64 (sq t v)) ∧ ∃ p : Regrown, w'' = grow (redrawn wr p.d) p.os :=
            fun t v ht hv dd os => Calls.regrown_of ((squareOf_any t v ht hv _).mono (by rintro e w' ⟨rfl, o1, o2, rfl⟩; exact ⟨rfl, ((Below.refl _ _).alloc (Nat.le_refl _) _).alloc (by simp) _⟩))
          have C1 := Lib.hid cc
          clear hu hp1 hp2 e0 e0' e0'' hstep cc e1 e2 e3 e4 e5 e6 e7 e8
          by_cases hcmp : sq p1 p2 < sq s u
          all_goals
            go_wp2
            refine wp_region_quiet_below (by kernel_rfl) (by kernel_rfl) ?_
            repeat (quiet_step (exact C1.out _ _ (by assumption) (by assumption) _ _))
            refine wpQuiet_nil ?_
            intro _ hw'
            obtain ⟨⟨dq, osq⟩, hw''⟩ := hw'
            subst hw''
            have hb5 := below_regrown wr dq osq
            have hz5 := hb5.size
            go_wp2
            go_roundw
            case rel => first | exact ⟨q + 1, k, q, by omega, by omega, by omega, by omega, by go_num, rfl, by go_num, by (repeat (first | exact Below.refl _ _ | assumption | (refine Below.alloc ?_ (by first | omega | (simp; done) | (simp; omega)) _) | (refine Below.setCell ?_ (by first | omega | (simp; done) | (simp; omega)) _) | (refine Below.drew ?_) | (refine Below.drewN ?_ _) | (refine Below.next (by assumption) ?_ (by first | omega | (simp; done) | (simp; omega))))), Lib.hid (by rw [HST.out, if_pos (by omega)])⟩ | exact ⟨q + 1, x, y, by omega, by omega, by omega, by omega, by go_num, rfl, rfl, by (repeat (first | exact Below.refl _ _ | assumption | (refine Below.alloc ?_ (by first | omega | (simp; done) | (simp; omega)) _) | (refine Below.setCell ?_ (by first | omega | (simp; done) | (simp; omega)) _) | (refine Below.drew ?_) | (refine Below.drewN ?_ _) | (refine Below.next (by assumption) ?_ (by first | omega | (simp; done) | (simp; omega))))), Lib.hid (by rw [HST.out, if_neg (by omega)])⟩
            case measure => simp [intOf]; omega
        · go_wp2
          go_roundw
          case rel => exact ⟨k + 1, x, y, by omega, by omega, by omega, by go_num, rfl, rfl, hb4, Lib.hid (by rw [wqI, ← H2.out, show L.length = q by omega])⟩
          case measure => simp [intOf]; omega
    · go_wp2
      go_ret3
      have e1 : k = L.length := by omega
      subst e1
      exact ⟨ret_three (by rw [HV.out.1, H.out]) (by rw [HV.out.2.1, H.out]) HV.out.2.2.symm, hb⟩
end Go.Proofs.Ytdipmjflgjlfeaa
