/-
  Contracts: LeastCoverOf, WorstAbsence.
-/
import Derived.Test.YthppancpecjegaaAco
namespace Go.Proofs.Ythppancpecjegaa
open Go.RowKit
open Go.Sort (grow)

def lkV (L : List Sp) (a n : List Int) : List Int := if abOk L a n then lcL L a n else []
def lkN (L : List Sp) (a n : List Int) : Int := if abOk L a n then lcN L a n else 0
def lkB (L : List Sp) (a n : List Int) : Bool := abOk L a n && lcA L a n
theorem lkV_le (L : List Sp) (a n : List Int) : (lkV L a n).length ≤ n.length := by
  unfold lkV
  split
  · unfold lcL
    split
    · rw [lcV, List.length_map, lcS_len]
      exact opens_len a n
    · simp
  · simp
theorem RetInts3.lift {w w1 w' : World} {V : List Int} {s : Int} {ok : Bool} {e : Ending} (h : RetInts3 w1 V s ok e w') (hb : Below w.heap.size w w1) : RetInts3 w V s ok e w' := by
  obtain ⟨A', c', he, ho, hq⟩ := h
  exact ⟨A', c', he, own_base ho hb.size, hb.trans (hq.mono hb.size)⟩

set_option maxRecDepth 100000 in
theorem spec_LeastCoverOf_any (A : Option Addr) (c : Nat) (L : List Sp) (B : Option Addr) (d : Nat) (a : List Int) (C : Option Addr) (f : Nat) (n : List Int) (w : World) (hm : Mem w A (spots L)) (ha : Mem w B (ints a)) (hn : Mem w C (ints n)) (hl : L.length ≤ 1048576) (hl2 : a.length ≤ 1048576) (hl3 : n.length ≤ 1048576) (hlc : L.length ≤ c) : Calls Try.prog 14 #[.slice A L.length c, .slice B a.length d, .slice C n.length f] w (RetInts3 w (lkV L a n) (lkN L a n) (lkB L a n)) := by
  cases h1 : abOk L a n
  all_goals have H1 := Lib.hid h1
  · clear h1
    go_enter Try.func14, Try.ntmps14
    go_wp2_with (go_at_call 43; refine (abAsked_any _ _ L _ _ a _ _ n _ (hm.below (by (repeat (first | exact Below.refl _ _ | assumption | (refine Below.alloc ?_ (by first | omega | (simp; done) | (simp; omega)) _) | (refine Below.setCell ?_ (by first | omega | (simp; done) | (simp; omega)) _) | (refine Below.drew ?_) | (refine Below.drewN ?_ _) | (refine Below.next (by assumption) ?_ (by first | omega | (simp; done) | (simp; omega))))))) (ha.below (by (repeat (first | exact Below.refl _ _ | assumption | (refine Below.alloc ?_ (by first | omega | (simp; done) | (simp; omega)) _) | (refine Below.setCell ?_ (by first | omega | (simp; done) | (simp; omega)) _) | (refine Below.drew ?_) | (refine Below.drewN ?_ _) | (refine Below.next (by assumption) ?_ (by first | omega | (simp; done) | (simp; omega))))))) (hn.below (by (repeat (first | exact Below.refl _ _ | assumption | (refine Below.alloc ?_ (by first | omega | (simp; done) | (simp; omega)) _) | (refine Below.setCell ?_ (by first | omega | (simp; done) | (simp; omega)) _) | (refine Below.drew ?_) | (refine Below.drewN ?_ _) | (refine Below.next (by assumption) ?_ (by first | omega | (simp; done) | (simp; omega))))))) hl hl2 hl3 hlc).mono ?_; rintro e w' ⟨he, hq⟩; rw [H1.out] at he; subst he; obtain ⟨hz, hc, hf⟩ := bel hq)
    go_ret3
    exact RetInts3.none_ (by rw [lkV, H1.out]; rfl) (by rw [lkN, H1.out]; rfl) (by rw [lkB, H1.out]; rfl) (by (repeat (first | exact Below.refl _ _ | assumption | (refine Below.alloc ?_ (by first | omega | (simp; done) | (simp; omega)) _) | (refine Below.setCell ?_ (by first | omega | (simp; done) | (simp; omega)) _) | (refine Below.drew ?_) | (refine Below.drewN ?_ _) | (refine Below.next (by assumption) ?_ (by first | omega | (simp; done) | (simp; omega))))))
  · clear h1
    go_enter Try.func14, Try.ntmps14
    go_wp2_with (go_at_call 43; refine (abAsked_any _ _ L _ _ a _ _ n _ (hm.below (by (repeat (first | exact Below.refl _ _ | assumption | (refine Below.alloc ?_ (by first | omega | (simp; done) | (simp; omega)) _) | (refine Below.setCell ?_ (by first | omega | (simp; done) | (simp; omega)) _) | (refine Below.drew ?_) | (refine Below.drewN ?_ _) | (refine Below.next (by assumption) ?_ (by first | omega | (simp; done) | (simp; omega))))))) (ha.below (by (repeat (first | exact Below.refl _ _ | assumption | (refine Below.alloc ?_ (by first | omega | (simp; done) | (simp; omega)) _) | (refine Below.setCell ?_ (by first | omega | (simp; done) | (simp; omega)) _) | (refine Below.drew ?_) | (refine Below.drewN ?_ _) | (refine Below.next (by assumption) ?_ (by first | omega | (simp; done) | (simp; omega))))))) (hn.below (by (repeat (first | exact Below.refl _ _ | assumption | (refine Below.alloc ?_ (by first | omega | (simp; done) | (simp; omega)) _) | (refine Below.setCell ?_ (by first | omega | (simp; done) | (simp; omega)) _) | (refine Below.drew ?_) | (refine Below.drewN ?_ _) | (refine Below.next (by assumption) ?_ (by first | omega | (simp; done) | (simp; omega))))))) hl hl2 hl3 hlc).mono ?_; rintro e w1 ⟨he, hq⟩; rw [H1.out] at he; subst he; obtain ⟨hz, hc, hf⟩ := bel hq)
    refine (abLeast_any _ _ L _ _ a _ _ n _ (hm.below (by (repeat (first | exact Below.refl _ _ | assumption | (refine Below.alloc ?_ (by first | omega | (simp; done) | (simp; omega)) _) | (refine Below.setCell ?_ (by first | omega | (simp; done) | (simp; omega)) _) | (refine Below.drew ?_) | (refine Below.drewN ?_ _) | (refine Below.next (by assumption) ?_ (by first | omega | (simp; done) | (simp; omega))))))) (ha.below (by (repeat (first | exact Below.refl _ _ | assumption | (refine Below.alloc ?_ (by first | omega | (simp; done) | (simp; omega)) _) | (refine Below.setCell ?_ (by first | omega | (simp; done) | (simp; omega)) _) | (refine Below.drew ?_) | (refine Below.drewN ?_ _) | (refine Below.next (by assumption) ?_ (by first | omega | (simp; done) | (simp; omega))))))) (hn.below (by (repeat (first | exact Below.refl _ _ | assumption | (refine Below.alloc ?_ (by first | omega | (simp; done) | (simp; omega)) _) | (refine Below.setCell ?_ (by first | omega | (simp; done) | (simp; omega)) _) | (refine Below.drew ?_) | (refine Below.drewN ?_ _) | (refine Below.next (by assumption) ?_ (by first | omega | (simp; done) | (simp; omega))))))) hl hl2 hl3 H1.out).mono ?_
    rintro e w2 h
    have h2 := h.lift (w := w) (by (repeat (first | exact Below.refl _ _ | assumption | (refine Below.alloc ?_ (by first | omega | (simp; done) | (simp; omega)) _) | (refine Below.setCell ?_ (by first | omega | (simp; done) | (simp; omega)) _) | (refine Below.drew ?_) | (refine Below.drewN ?_ _) | (refine Below.next (by assumption) ?_ (by first | omega | (simp; done) | (simp; omega))))))
    obtain ⟨A', c', rfl, ho, hq2⟩ := h2
    go_wp2_with fail
    go_ret3
    rw [show lkV L a n = lcL L a n by rw [lkV, H1.out]; rfl, show lkN L a n = lcN L a n by rw [lkN, H1.out]; rfl, show lkB L a n = lcA L a n by rw [lkB, H1.out]; rfl]
    exact ⟨A', c', rfl, ho, hq2⟩
set_option maxRecDepth 100000 in
theorem impl_LeastCoverOf_any (A : Option Addr) (c : Nat) (L : List Sp) (B : Option Addr) (d : Nat) (a : List Int) (C : Option Addr) (f : Nat) (n : List Int) (w : World) (hm : Mem w A (spots L)) (ha : Mem w B (ints a)) (hn : Mem w C (ints n)) (hl : L.length ≤ 1048576) (hl2 : a.length ≤ 1048576) (hl3 : n.length ≤ 1048576) (hlc : L.length ≤ c) : Calls Try.prog 15 #[.slice A L.length c, .slice B a.length d, .slice C n.length f] w (RetInts3 w (lkV L a n) (lkN L a n) (lkB L a n)) := by
  cases h1 : abOk L a n
  all_goals have H1 := Lib.hid h1
  · clear h1
    go_enter Try.func15, Try.ntmps15
    go_wp2_with (go_at_call 40; refine (IsAbsence_any _ _ L _ _ a _ _ n _ (hm.below (by (repeat (first | exact Below.refl _ _ | assumption | (refine Below.alloc ?_ (by first | omega | (simp; done) | (simp; omega)) _) | (refine Below.setCell ?_ (by first | omega | (simp; done) | (simp; omega)) _) | (refine Below.drew ?_) | (refine Below.drewN ?_ _) | (refine Below.next (by assumption) ?_ (by first | omega | (simp; done) | (simp; omega))))))) (ha.below (by (repeat (first | exact Below.refl _ _ | assumption | (refine Below.alloc ?_ (by first | omega | (simp; done) | (simp; omega)) _) | (refine Below.setCell ?_ (by first | omega | (simp; done) | (simp; omega)) _) | (refine Below.drew ?_) | (refine Below.drewN ?_ _) | (refine Below.next (by assumption) ?_ (by first | omega | (simp; done) | (simp; omega))))))) (hn.below (by (repeat (first | exact Below.refl _ _ | assumption | (refine Below.alloc ?_ (by first | omega | (simp; done) | (simp; omega)) _) | (refine Below.setCell ?_ (by first | omega | (simp; done) | (simp; omega)) _) | (refine Below.drew ?_) | (refine Below.drewN ?_ _) | (refine Below.next (by assumption) ?_ (by first | omega | (simp; done) | (simp; omega))))))) hl hl2 hl3 hlc).mono ?_; rintro e w' ⟨he, hq⟩; rw [H1.out] at he; subst he; obtain ⟨hz, hc, hf⟩ := bel hq)
    go_ret3
    exact RetInts3.none_ (by rw [lkV, H1.out]; rfl) (by rw [lkN, H1.out]; rfl) (by rw [lkB, H1.out]; rfl) (by (repeat (first | exact Below.refl _ _ | assumption | (refine Below.alloc ?_ (by first | omega | (simp; done) | (simp; omega)) _) | (refine Below.setCell ?_ (by first | omega | (simp; done) | (simp; omega)) _) | (refine Below.drew ?_) | (refine Below.drewN ?_ _) | (refine Below.next (by assumption) ?_ (by first | omega | (simp; done) | (simp; omega))))))
  · clear h1
    go_enter Try.func15, Try.ntmps15
    go_wp2_with (go_at_call 40; refine (IsAbsence_any _ _ L _ _ a _ _ n _ (hm.below (by (repeat (first | exact Below.refl _ _ | assumption | (refine Below.alloc ?_ (by first | omega | (simp; done) | (simp; omega)) _) | (refine Below.setCell ?_ (by first | omega | (simp; done) | (simp; omega)) _) | (refine Below.drew ?_) | (refine Below.drewN ?_ _) | (refine Below.next (by assumption) ?_ (by first | omega | (simp; done) | (simp; omega))))))) (ha.below (by (repeat (first | exact Below.refl _ _ | assumption | (refine Below.alloc ?_ (by first | omega | (simp; done) | (simp; omega)) _) | (refine Below.setCell ?_ (by first | omega | (simp; done) | (simp; omega)) _) | (refine Below.drew ?_) | (refine Below.drewN ?_ _) | (refine Below.next (by assumption) ?_ (by first | omega | (simp; done) | (simp; omega))))))) (hn.below (by (repeat (first | exact Below.refl _ _ | assumption | (refine Below.alloc ?_ (by first | omega | (simp; done) | (simp; omega)) _) | (refine Below.setCell ?_ (by first | omega | (simp; done) | (simp; omega)) _) | (refine Below.drew ?_) | (refine Below.drewN ?_ _) | (refine Below.next (by assumption) ?_ (by first | omega | (simp; done) | (simp; omega))))))) hl hl2 hl3 hlc).mono ?_; rintro e w1 ⟨he, hq⟩; rw [H1.out] at he; subst he; obtain ⟨hz, hc, hf⟩ := bel hq)
    refine (leastCover_any _ _ L _ _ a _ _ n _ (hm.below (by (repeat (first | exact Below.refl _ _ | assumption | (refine Below.alloc ?_ (by first | omega | (simp; done) | (simp; omega)) _) | (refine Below.setCell ?_ (by first | omega | (simp; done) | (simp; omega)) _) | (refine Below.drew ?_) | (refine Below.drewN ?_ _) | (refine Below.next (by assumption) ?_ (by first | omega | (simp; done) | (simp; omega))))))) (ha.below (by (repeat (first | exact Below.refl _ _ | assumption | (refine Below.alloc ?_ (by first | omega | (simp; done) | (simp; omega)) _) | (refine Below.setCell ?_ (by first | omega | (simp; done) | (simp; omega)) _) | (refine Below.drew ?_) | (refine Below.drewN ?_ _) | (refine Below.next (by assumption) ?_ (by first | omega | (simp; done) | (simp; omega))))))) (hn.below (by (repeat (first | exact Below.refl _ _ | assumption | (refine Below.alloc ?_ (by first | omega | (simp; done) | (simp; omega)) _) | (refine Below.setCell ?_ (by first | omega | (simp; done) | (simp; omega)) _) | (refine Below.drew ?_) | (refine Below.drewN ?_ _) | (refine Below.next (by assumption) ?_ (by first | omega | (simp; done) | (simp; omega))))))) hl hl2 hl3 H1.out).mono ?_
    rintro e w2 h
    have h2 := h.lift (w := w) (by (repeat (first | exact Below.refl _ _ | assumption | (refine Below.alloc ?_ (by first | omega | (simp; done) | (simp; omega)) _) | (refine Below.setCell ?_ (by first | omega | (simp; done) | (simp; omega)) _) | (refine Below.drew ?_) | (refine Below.drewN ?_ _) | (refine Below.next (by assumption) ?_ (by first | omega | (simp; done) | (simp; omega))))))
    obtain ⟨A', c', rfl, ho, hq2⟩ := h2
    go_wp2_with fail
    go_ret3
    rw [show lkV L a n = lcL L a n by rw [lkV, H1.out]; rfl, show lkN L a n = lcN L a n by rw [lkN, H1.out]; rfl, show lkB L a n = lcA L a n by rw [lkB, H1.out]; rfl]
    exact ⟨A', c', rfl, ho, hq2⟩

/-- The performer whose absence costs most, among the first k, and what it costs. -/
def waS (L : List Sp) (n : List Int) : Nat → Int × Int
  | 0 => (-1, -1)
  | i + 1 => if lcA L [(i : Int)] n = true ∧ (waS L n i).2 < lcN L [(i : Int)] n then ((i : Int), lcN L [(i : Int)] n) else waS L n i
theorem lcN_nonneg {L : List Sp} {a n : List Int} (h : abOk L a n = true) : 0 ≤ lcN L a n := by
  unfold lcN
  split
  · exact (bst_bd (cst_bd (ch_all (abOk_iff.1 h).1) (fun x hx => by obtain ⟨k, hk⟩ := List.mem_iff_getElem?.1 hx; obtain ⟨y, rfl, hy⟩ := op_nat h hk; omega) (fun x hx => spares_mem hx)) _ _ (Nat.le_refl _)).1
  · omega
theorem lcN_le {L : List Sp} {a n : List Int} (h : abOk L a n = true) : lcN L a n ≤ 1099511627776 := by
  unfold lcN
  split
  · exact (bst_bd (cst_bd (ch_all (abOk_iff.1 h).1) (fun x hx => by obtain ⟨k, hk⟩ := List.mem_iff_getElem?.1 hx; obtain ⟨y, rfl, hy⟩ := op_nat h hk; omega) (fun x hx => spares_mem hx)) _ _ (Nat.le_refl _)).2
  · omega
theorem one_ok {L : List Sp} {n : List Int} {i : Nat} (h : abOk L [] n = true) (hi : i < L.length) : abOk L [(i : Int)] n = true := by
  obtain ⟨h1, _, h3⟩ := abOk_iff.1 h
  refine abOk_iff.2 ⟨h1, ?_, h3⟩
  show riseTo [(i : Int)] (L.length - 1) 1 = true
  refine riseTo_yes rfl (x := (i : Int)) rfl (inR_iff.2 ⟨by omega, by omega⟩) (.inl rfl)
/-- Both are below 0, or neither is. -/
theorem waS_sign {L : List Sp} {n : List Int} (h : abOk L [] n = true) : ∀ k, k ≤ L.length → ((waS L n k).1 < 0 ∧ (waS L n k).2 = -1) ∨ (0 ≤ (waS L n k).1 ∧ 0 ≤ (waS L n k).2)
  | 0, _ => .inl ⟨by rw [waS]; omega, rfl⟩
  | k + 1, hk => by
    rw [waS]
    split
    · exact .inr ⟨by show (0 : Int) ≤ k; omega, lcN_nonneg (one_ok h (by omega))⟩
    · exact waS_sign h k (by omega)
def wkB (L : List Sp) (n : List Int) : Bool := abOk L [] n && decide (0 ≤ (waS L n L.length).1)
def wkV (L : List Sp) (n : List Int) : Int := if wkB L n then (waS L n L.length).1 else 0
def wkN (L : List Sp) (n : List Int) : Int := if wkB L n then (waS L n L.length).2 else 0
end Go.Proofs.Ythppancpecjegaa
