/-
  Contracts: IsAbsence, OpenSpots, SparePerformers, LackingPerformers, IsCoverOf, CoverSum: the program's and the reference's.
-/
import Derived.Test.YthppancpecjegaaAb
import Derived.Test.YthppancpecjegaaRet
import Derived.Lib.QuietBelow
namespace Go.Proofs.Ythppancpecjegaa
open Go.RowKit Go.Sort

theorem ret_bools {a b c d : Bool} (h : a = b) (h' : c = d) : Ending.returned (.tuple #[.bool a, .bool c]) = .returned (.tuple #[.bool b, .bool d]) := by rw [h, h']
def opV (L : List Sp) (a n : List Int) : List Int := if abOk L a n then opens a n else []
def spV (L : List Sp) (a n : List Int) : List Int := if abOk L a n then spares L.length a n else []
def laV (L : List Sp) (a n : List Int) : Int := if abOk L a n then max (((opens a n).length : Int) - (spares L.length a n).length) 0 else 0
def icV (L : List Sp) (a n mv : List Int) : Bool := if abOk L a n then covOk L.length a n mv else false
def csOk (L : List Sp) (a n mv : List Int) : Bool := abOk L a n && covOk L.length a n mv
theorem csOk_iff {L : List Sp} {a n mv : List Int} : csOk L a n mv = true ↔ abOk L a n = true ∧ covOk L.length a n mv = true := by simp [csOk]
/-- The sum of the squares of the first k ways. -/
def cTo (L : List Sp) (mv op : List Int) : Nat → Int
  | 0 => 0
  | k + 1 => cTo L mv op k + sq (L.getD (mv.getD k 0).toNat ⟨0, 0⟩) (L.getD (op.getD k 0).toNat ⟨0, 0⟩)
def csV (L : List Sp) (a n mv : List Int) : Int := if csOk L a n mv then cTo L mv (opens a n) (opens a n).length else 0
theorem cTo_succ {L : List Sp} {mv op : List Int} {k x y : Nat} {s t : Sp} (hx : mv[k]? = some (x : Int)) (hy : op[k]? = some (y : Int)) (hs : L[x]? = some s) (ht : L[y]? = some t) : cTo L mv op (k + 1) = cTo L mv op k + sq s t := by
  have e1 : mv.getD k 0 = (x : Int) := by simp [List.getD, hx]
  have e2 : op.getD k 0 = (y : Int) := by simp [List.getD, hy]
  rw [cTo, e1, e2]
  simp [List.getD, hs, ht]
/-- A number in 0..m-1 as a natural one. -/
theorem nat_of {x : Int} {m : Nat} (h0 : 0 ≤ x) (h1 : x < m) : ∃ k : Nat, x = (k : Int) ∧ k < m := ⟨x.toNat, by omega, by omega⟩
theorem ab_lens {L : List Sp} {a n : List Int} (h : abOk L a n = true) : (1 ≤ L.length ∧ L.length ≤ 12) ∧ a.length ≤ 12 ∧ n.length ≤ 12 := by
  obtain ⟨h1, h2, h3⟩ := abOk_iff.1 h
  have h4 := (chOk_iff.1 h1).1
  have h5 := rise_len h2 (by omega)
  have h6 := rise_len h3 (by omega)
  omega
theorem op_nat {L : List Sp} {a n : List Int} {k : Nat} {x : Int} (h : abOk L a n = true) (hx : (opens a n)[k]? = some x) : ∃ y : Nat, x = (y : Int) ∧ y < L.length := by
  obtain ⟨h1, h2, h3⟩ := abOk_iff.1 h
  have h4 := (chOk_iff.1 h1).1
  have h5 := (opens_mem (List.mem_of_getElem? hx)).1
  have h6 := rise_mem h3 h5
  exact nat_of h6.1 (by omega)
theorem mv_nat {m : Nat} {a n mv : List Int} {k : Nat} {x : Int} (h : covOk m a n mv = true) (hx : mv[k]? = some x) : ∃ y : Nat, x = (y : Int) ∧ y < m := by
  have h1 := (covTo_at (covOk_iff.1 h).1 (List.getElem?_eq_some_iff.1 hx).1 hx).1
  have h2 := spares_mem (has_iff.1 h1)
  exact nat_of h2.1 h2.2

theorem impl_IsAbsence_any (A : Option Addr) (c : Nat) (L : List Sp) (B : Option Addr) (d : Nat) (a : List Int) (C : Option Addr) (f : Nat) (n : List Int) (w : World) (hm : Mem w A (spots L)) (ha : Mem w B (ints a)) (hn : Mem w C (ints n)) (hl : L.length ≤ 1048576) (hl2 : a.length ≤ 1048576) (hl3 : n.length ≤ 1048576) (hlc : L.length ≤ c) : Calls Try.prog 40 #[.slice A L.length c, .slice B a.length d, .slice C n.length f] w fun e w' => e = .returned (.bool (abOk L a n)) ∧ Below w.heap.size w w' := by
  exact IsAbsence_any A c L B d a C f n w hm ha hn hl hl2 hl3 hlc
set_option maxRecDepth 100000 in
theorem spec_OpenSpots_any (A : Option Addr) (c : Nat) (L : List Sp) (B : Option Addr) (d : Nat) (a : List Int) (C : Option Addr) (f : Nat) (n : List Int) (w : World) (hm : Mem w A (spots L)) (ha : Mem w B (ints a)) (hn : Mem w C (ints n)) (hl : L.length ≤ 1048576) (hl2 : a.length ≤ 1048576) (hl3 : n.length ≤ 1048576) (hlc : L.length ≤ c) : Calls Try.prog 30 #[.slice A L.length c, .slice B a.length d, .slice C n.length f] w (RetInts w (opV L a n) (abOk L a n)) := by
  cases h1 : abOk L a n
  all_goals have H1 := Lib.hid h1
  · clear h1
    go_enter Try.func30, Try.ntmps30
    go_wp2_with (go_at_call 43; refine (abAsked_any _ _ L _ _ a _ _ n _ (hm.below (by (repeat (first | exact Below.refl _ _ | assumption | (refine Below.alloc ?_ (by first | omega | (simp; done) | (simp; omega)) _) | (refine Below.setCell ?_ (by first | omega | (simp; done) | (simp; omega)) _) | (refine Below.drew ?_) | (refine Below.drewN ?_ _) | (refine Below.next (by assumption) ?_ (by first | omega | (simp; done) | (simp; omega))))))) (ha.below (by (repeat (first | exact Below.refl _ _ | assumption | (refine Below.alloc ?_ (by first | omega | (simp; done) | (simp; omega)) _) | (refine Below.setCell ?_ (by first | omega | (simp; done) | (simp; omega)) _) | (refine Below.drew ?_) | (refine Below.drewN ?_ _) | (refine Below.next (by assumption) ?_ (by first | omega | (simp; done) | (simp; omega))))))) (hn.below (by (repeat (first | exact Below.refl _ _ | assumption | (refine Below.alloc ?_ (by first | omega | (simp; done) | (simp; omega)) _) | (refine Below.setCell ?_ (by first | omega | (simp; done) | (simp; omega)) _) | (refine Below.drew ?_) | (refine Below.drewN ?_ _) | (refine Below.next (by assumption) ?_ (by first | omega | (simp; done) | (simp; omega))))))) hl hl2 hl3 hlc).mono ?_; rintro e w' ⟨he, hq⟩; rw [H1.out] at he; subst he; obtain ⟨hz, hc, hf⟩ := bel hq)
    go_ret2
    exact RetInts.none_ (by simp [opV, H1.out]) rfl (by (repeat (first | exact Below.refl _ _ | assumption | (refine Below.alloc ?_ (by first | omega | (simp; done) | (simp; omega)) _) | (refine Below.setCell ?_ (by first | omega | (simp; done) | (simp; omega)) _) | (refine Below.drew ?_) | (refine Below.drewN ?_ _) | (refine Below.next (by assumption) ?_ (by first | omega | (simp; done) | (simp; omega))))))
  · have HV : Hid (opV L a n = opens a n) := Lib.hid (by simp [opV, h1])
    clear h1
    go_enter Try.func30, Try.ntmps30
    go_wp2_with (go_at_call 43; refine (abAsked_any _ _ L _ _ a _ _ n _ (hm.below (by (repeat (first | exact Below.refl _ _ | assumption | (refine Below.alloc ?_ (by first | omega | (simp; done) | (simp; omega)) _) | (refine Below.setCell ?_ (by first | omega | (simp; done) | (simp; omega)) _) | (refine Below.drew ?_) | (refine Below.drewN ?_ _) | (refine Below.next (by assumption) ?_ (by first | omega | (simp; done) | (simp; omega))))))) (ha.below (by (repeat (first | exact Below.refl _ _ | assumption | (refine Below.alloc ?_ (by first | omega | (simp; done) | (simp; omega)) _) | (refine Below.setCell ?_ (by first | omega | (simp; done) | (simp; omega)) _) | (refine Below.drew ?_) | (refine Below.drewN ?_ _) | (refine Below.next (by assumption) ?_ (by first | omega | (simp; done) | (simp; omega))))))) (hn.below (by (repeat (first | exact Below.refl _ _ | assumption | (refine Below.alloc ?_ (by first | omega | (simp; done) | (simp; omega)) _) | (refine Below.setCell ?_ (by first | omega | (simp; done) | (simp; omega)) _) | (refine Below.drew ?_) | (refine Below.drewN ?_ _) | (refine Below.next (by assumption) ?_ (by first | omega | (simp; done) | (simp; omega))))))) hl hl2 hl3 hlc).mono ?_; rintro e w' ⟨he, hq⟩; rw [H1.out] at he; subst he; obtain ⟨hz, hc, hf⟩ := bel hq)
    refine (abOpen_any _ _ a _ _ n _ (ha.below (by (repeat (first | exact Below.refl _ _ | assumption | (refine Below.alloc ?_ (by first | omega | (simp; done) | (simp; omega)) _) | (refine Below.setCell ?_ (by first | omega | (simp; done) | (simp; omega)) _) | (refine Below.drew ?_) | (refine Below.drewN ?_ _) | (refine Below.next (by assumption) ?_ (by first | omega | (simp; done) | (simp; omega))))))) (hn.below (by (repeat (first | exact Below.refl _ _ | assumption | (refine Below.alloc ?_ (by first | omega | (simp; done) | (simp; omega)) _) | (refine Below.setCell ?_ (by first | omega | (simp; done) | (simp; omega)) _) | (refine Below.drew ?_) | (refine Below.drewN ?_ _) | (refine Below.next (by assumption) ?_ (by first | omega | (simp; done) | (simp; omega))))))) hl2 hl3).mono ?_
    rintro e w1 ⟨A1, c1, rfl, ho, hq1⟩
    go_wp2_with fail
    go_ret2
    exact RetInts.some_ rfl HV.out ho rfl (by omega) (by (repeat (first | exact Below.refl _ _ | assumption | (refine Below.alloc ?_ (by first | omega | (simp; done) | (simp; omega)) _) | (refine Below.setCell ?_ (by first | omega | (simp; done) | (simp; omega)) _) | (refine Below.drew ?_) | (refine Below.drewN ?_ _) | (refine Below.next (by assumption) ?_ (by first | omega | (simp; done) | (simp; omega))))))
set_option maxRecDepth 100000 in
theorem impl_OpenSpots_any (A : Option Addr) (c : Nat) (L : List Sp) (B : Option Addr) (d : Nat) (a : List Int) (C : Option Addr) (f : Nat) (n : List Int) (w : World) (hm : Mem w A (spots L)) (ha : Mem w B (ints a)) (hn : Mem w C (ints n)) (hl : L.length ≤ 1048576) (hl2 : a.length ≤ 1048576) (hl3 : n.length ≤ 1048576) (hlc : L.length ≤ c) : Calls Try.prog 33 #[.slice A L.length c, .slice B a.length d, .slice C n.length f] w (RetInts w (opV L a n) (abOk L a n)) := by
  cases h1 : abOk L a n
  all_goals have H1 := Lib.hid h1
  · clear h1
    go_enter Try.func33, Try.ntmps33
    go_wp2_with (go_at_call 40; refine (IsAbsence_any _ _ L _ _ a _ _ n _ (hm.below (by (repeat (first | exact Below.refl _ _ | assumption | (refine Below.alloc ?_ (by first | omega | (simp; done) | (simp; omega)) _) | (refine Below.setCell ?_ (by first | omega | (simp; done) | (simp; omega)) _) | (refine Below.drew ?_) | (refine Below.drewN ?_ _) | (refine Below.next (by assumption) ?_ (by first | omega | (simp; done) | (simp; omega))))))) (ha.below (by (repeat (first | exact Below.refl _ _ | assumption | (refine Below.alloc ?_ (by first | omega | (simp; done) | (simp; omega)) _) | (refine Below.setCell ?_ (by first | omega | (simp; done) | (simp; omega)) _) | (refine Below.drew ?_) | (refine Below.drewN ?_ _) | (refine Below.next (by assumption) ?_ (by first | omega | (simp; done) | (simp; omega))))))) (hn.below (by (repeat (first | exact Below.refl _ _ | assumption | (refine Below.alloc ?_ (by first | omega | (simp; done) | (simp; omega)) _) | (refine Below.setCell ?_ (by first | omega | (simp; done) | (simp; omega)) _) | (refine Below.drew ?_) | (refine Below.drewN ?_ _) | (refine Below.next (by assumption) ?_ (by first | omega | (simp; done) | (simp; omega))))))) hl hl2 hl3 hlc).mono ?_; rintro e w' ⟨he, hq⟩; rw [H1.out] at he; subst he; obtain ⟨hz, hc, hf⟩ := bel hq)
    go_ret2
    exact RetInts.none_ (by simp [opV, H1.out]) rfl (by (repeat (first | exact Below.refl _ _ | assumption | (refine Below.alloc ?_ (by first | omega | (simp; done) | (simp; omega)) _) | (refine Below.setCell ?_ (by first | omega | (simp; done) | (simp; omega)) _) | (refine Below.drew ?_) | (refine Below.drewN ?_ _) | (refine Below.next (by assumption) ?_ (by first | omega | (simp; done) | (simp; omega))))))
  · have HV : Hid (opV L a n = opens a n) := Lib.hid (by simp [opV, h1])
    clear h1
    go_enter Try.func33, Try.ntmps33
    go_wp2_with (go_at_call 40; refine (IsAbsence_any _ _ L _ _ a _ _ n _ (hm.below (by (repeat (first | exact Below.refl _ _ | assumption | (refine Below.alloc ?_ (by first | omega | (simp; done) | (simp; omega)) _) | (refine Below.setCell ?_ (by first | omega | (simp; done) | (simp; omega)) _) | (refine Below.drew ?_) | (refine Below.drewN ?_ _) | (refine Below.next (by assumption) ?_ (by first | omega | (simp; done) | (simp; omega))))))) (ha.below (by (repeat (first | exact Below.refl _ _ | assumption | (refine Below.alloc ?_ (by first | omega | (simp; done) | (simp; omega)) _) | (refine Below.setCell ?_ (by first | omega | (simp; done) | (simp; omega)) _) | (refine Below.drew ?_) | (refine Below.drewN ?_ _) | (refine Below.next (by assumption) ?_ (by first | omega | (simp; done) | (simp; omega))))))) (hn.below (by (repeat (first | exact Below.refl _ _ | assumption | (refine Below.alloc ?_ (by first | omega | (simp; done) | (simp; omega)) _) | (refine Below.setCell ?_ (by first | omega | (simp; done) | (simp; omega)) _) | (refine Below.drew ?_) | (refine Below.drewN ?_ _) | (refine Below.next (by assumption) ?_ (by first | omega | (simp; done) | (simp; omega))))))) hl hl2 hl3 hlc).mono ?_; rintro e w' ⟨he, hq⟩; rw [H1.out] at he; subst he; obtain ⟨hz, hc, hf⟩ := bel hq)
    refine (openSpots_any _ _ a _ _ n _ (ha.below (by (repeat (first | exact Below.refl _ _ | assumption | (refine Below.alloc ?_ (by first | omega | (simp; done) | (simp; omega)) _) | (refine Below.setCell ?_ (by first | omega | (simp; done) | (simp; omega)) _) | (refine Below.drew ?_) | (refine Below.drewN ?_ _) | (refine Below.next (by assumption) ?_ (by first | omega | (simp; done) | (simp; omega))))))) (hn.below (by (repeat (first | exact Below.refl _ _ | assumption | (refine Below.alloc ?_ (by first | omega | (simp; done) | (simp; omega)) _) | (refine Below.setCell ?_ (by first | omega | (simp; done) | (simp; omega)) _) | (refine Below.drew ?_) | (refine Below.drewN ?_ _) | (refine Below.next (by assumption) ?_ (by first | omega | (simp; done) | (simp; omega))))))) hl2 hl3).mono ?_
    rintro e w1 ⟨A1, c1, rfl, ho, hq1⟩
    go_wp2_with fail
    go_ret2
    exact RetInts.some_ rfl HV.out ho rfl (by omega) (by (repeat (first | exact Below.refl _ _ | assumption | (refine Below.alloc ?_ (by first | omega | (simp; done) | (simp; omega)) _) | (refine Below.setCell ?_ (by first | omega | (simp; done) | (simp; omega)) _) | (refine Below.drew ?_) | (refine Below.drewN ?_ _) | (refine Below.next (by assumption) ?_ (by first | omega | (simp; done) | (simp; omega))))))
set_option maxRecDepth 100000 in
theorem spec_SparePerformers_any (A : Option Addr) (c : Nat) (L : List Sp) (B : Option Addr) (d : Nat) (a : List Int) (C : Option Addr) (f : Nat) (n : List Int) (w : World) (hm : Mem w A (spots L)) (ha : Mem w B (ints a)) (hn : Mem w C (ints n)) (hl : L.length ≤ 1048576) (hl2 : a.length ≤ 1048576) (hl3 : n.length ≤ 1048576) (hlc : L.length ≤ c) : Calls Try.prog 35 #[.slice A L.length c, .slice B a.length d, .slice C n.length f] w (RetInts w (spV L a n) (abOk L a n)) := by
  cases h1 : abOk L a n
  all_goals have H1 := Lib.hid h1
  · clear h1
    go_enter Try.func35, Try.ntmps35
    go_wp2_with (go_at_call 43; refine (abAsked_any _ _ L _ _ a _ _ n _ (hm.below (by (repeat (first | exact Below.refl _ _ | assumption | (refine Below.alloc ?_ (by first | omega | (simp; done) | (simp; omega)) _) | (refine Below.setCell ?_ (by first | omega | (simp; done) | (simp; omega)) _) | (refine Below.drew ?_) | (refine Below.drewN ?_ _) | (refine Below.next (by assumption) ?_ (by first | omega | (simp; done) | (simp; omega))))))) (ha.below (by (repeat (first | exact Below.refl _ _ | assumption | (refine Below.alloc ?_ (by first | omega | (simp; done) | (simp; omega)) _) | (refine Below.setCell ?_ (by first | omega | (simp; done) | (simp; omega)) _) | (refine Below.drew ?_) | (refine Below.drewN ?_ _) | (refine Below.next (by assumption) ?_ (by first | omega | (simp; done) | (simp; omega))))))) (hn.below (by (repeat (first | exact Below.refl _ _ | assumption | (refine Below.alloc ?_ (by first | omega | (simp; done) | (simp; omega)) _) | (refine Below.setCell ?_ (by first | omega | (simp; done) | (simp; omega)) _) | (refine Below.drew ?_) | (refine Below.drewN ?_ _) | (refine Below.next (by assumption) ?_ (by first | omega | (simp; done) | (simp; omega))))))) hl hl2 hl3 hlc).mono ?_; rintro e w' ⟨he, hq⟩; rw [H1.out] at he; subst he; obtain ⟨hz, hc, hf⟩ := bel hq)
    go_ret2
    exact RetInts.none_ (by simp [spV, H1.out]) rfl (by (repeat (first | exact Below.refl _ _ | assumption | (refine Below.alloc ?_ (by first | omega | (simp; done) | (simp; omega)) _) | (refine Below.setCell ?_ (by first | omega | (simp; done) | (simp; omega)) _) | (refine Below.drew ?_) | (refine Below.drewN ?_ _) | (refine Below.next (by assumption) ?_ (by first | omega | (simp; done) | (simp; omega))))))
  · have HV : Hid (spV L a n = spares L.length a n) := Lib.hid (by simp [spV, h1])
    clear h1
    go_enter Try.func35, Try.ntmps35
    go_wp2_with (go_at_call 43; refine (abAsked_any _ _ L _ _ a _ _ n _ (hm.below (by (repeat (first | exact Below.refl _ _ | assumption | (refine Below.alloc ?_ (by first | omega | (simp; done) | (simp; omega)) _) | (refine Below.setCell ?_ (by first | omega | (simp; done) | (simp; omega)) _) | (refine Below.drew ?_) | (refine Below.drewN ?_ _) | (refine Below.next (by assumption) ?_ (by first | omega | (simp; done) | (simp; omega))))))) (ha.below (by (repeat (first | exact Below.refl _ _ | assumption | (refine Below.alloc ?_ (by first | omega | (simp; done) | (simp; omega)) _) | (refine Below.setCell ?_ (by first | omega | (simp; done) | (simp; omega)) _) | (refine Below.drew ?_) | (refine Below.drewN ?_ _) | (refine Below.next (by assumption) ?_ (by first | omega | (simp; done) | (simp; omega))))))) (hn.below (by (repeat (first | exact Below.refl _ _ | assumption | (refine Below.alloc ?_ (by first | omega | (simp; done) | (simp; omega)) _) | (refine Below.setCell ?_ (by first | omega | (simp; done) | (simp; omega)) _) | (refine Below.drew ?_) | (refine Below.drewN ?_ _) | (refine Below.next (by assumption) ?_ (by first | omega | (simp; done) | (simp; omega))))))) hl hl2 hl3 hlc).mono ?_; rintro e w' ⟨he, hq⟩; rw [H1.out] at he; subst he; obtain ⟨hz, hc, hf⟩ := bel hq)
    refine (abSpare_any _ _ L _ _ a _ _ n _ (ha.below (by (repeat (first | exact Below.refl _ _ | assumption | (refine Below.alloc ?_ (by first | omega | (simp; done) | (simp; omega)) _) | (refine Below.setCell ?_ (by first | omega | (simp; done) | (simp; omega)) _) | (refine Below.drew ?_) | (refine Below.drewN ?_ _) | (refine Below.next (by assumption) ?_ (by first | omega | (simp; done) | (simp; omega))))))) (hn.below (by (repeat (first | exact Below.refl _ _ | assumption | (refine Below.alloc ?_ (by first | omega | (simp; done) | (simp; omega)) _) | (refine Below.setCell ?_ (by first | omega | (simp; done) | (simp; omega)) _) | (refine Below.drew ?_) | (refine Below.drewN ?_ _) | (refine Below.next (by assumption) ?_ (by first | omega | (simp; done) | (simp; omega))))))) hl hl2 hl3).mono ?_
    rintro e w1 ⟨A1, c1, rfl, ho, hq1⟩
    go_wp2_with fail
    go_ret2
    exact RetInts.some_ rfl HV.out ho rfl (by omega) (by (repeat (first | exact Below.refl _ _ | assumption | (refine Below.alloc ?_ (by first | omega | (simp; done) | (simp; omega)) _) | (refine Below.setCell ?_ (by first | omega | (simp; done) | (simp; omega)) _) | (refine Below.drew ?_) | (refine Below.drewN ?_ _) | (refine Below.next (by assumption) ?_ (by first | omega | (simp; done) | (simp; omega))))))
set_option maxRecDepth 100000 in
theorem impl_SparePerformers_any (A : Option Addr) (c : Nat) (L : List Sp) (B : Option Addr) (d : Nat) (a : List Int) (C : Option Addr) (f : Nat) (n : List Int) (w : World) (hm : Mem w A (spots L)) (ha : Mem w B (ints a)) (hn : Mem w C (ints n)) (hl : L.length ≤ 1048576) (hl2 : a.length ≤ 1048576) (hl3 : n.length ≤ 1048576) (hlc : L.length ≤ c) : Calls Try.prog 34 #[.slice A L.length c, .slice B a.length d, .slice C n.length f] w (RetInts w (spV L a n) (abOk L a n)) := by
  cases h1 : abOk L a n
  all_goals have H1 := Lib.hid h1
  · clear h1
    go_enter Try.func34, Try.ntmps34
    go_wp2_with (go_at_call 40; refine (IsAbsence_any _ _ L _ _ a _ _ n _ (hm.below (by (repeat (first | exact Below.refl _ _ | assumption | (refine Below.alloc ?_ (by first | omega | (simp; done) | (simp; omega)) _) | (refine Below.setCell ?_ (by first | omega | (simp; done) | (simp; omega)) _) | (refine Below.drew ?_) | (refine Below.drewN ?_ _) | (refine Below.next (by assumption) ?_ (by first | omega | (simp; done) | (simp; omega))))))) (ha.below (by (repeat (first | exact Below.refl _ _ | assumption | (refine Below.alloc ?_ (by first | omega | (simp; done) | (simp; omega)) _) | (refine Below.setCell ?_ (by first | omega | (simp; done) | (simp; omega)) _) | (refine Below.drew ?_) | (refine Below.drewN ?_ _) | (refine Below.next (by assumption) ?_ (by first | omega | (simp; done) | (simp; omega))))))) (hn.below (by (repeat (first | exact Below.refl _ _ | assumption | (refine Below.alloc ?_ (by first | omega | (simp; done) | (simp; omega)) _) | (refine Below.setCell ?_ (by first | omega | (simp; done) | (simp; omega)) _) | (refine Below.drew ?_) | (refine Below.drewN ?_ _) | (refine Below.next (by assumption) ?_ (by first | omega | (simp; done) | (simp; omega))))))) hl hl2 hl3 hlc).mono ?_; rintro e w' ⟨he, hq⟩; rw [H1.out] at he; subst he; obtain ⟨hz, hc, hf⟩ := bel hq)
    go_ret2
    exact RetInts.none_ (by simp [spV, H1.out]) rfl (by (repeat (first | exact Below.refl _ _ | assumption | (refine Below.alloc ?_ (by first | omega | (simp; done) | (simp; omega)) _) | (refine Below.setCell ?_ (by first | omega | (simp; done) | (simp; omega)) _) | (refine Below.drew ?_) | (refine Below.drewN ?_ _) | (refine Below.next (by assumption) ?_ (by first | omega | (simp; done) | (simp; omega))))))
  · have HV : Hid (spV L a n = spares L.length a n) := Lib.hid (by simp [spV, h1])
    clear h1
    go_enter Try.func34, Try.ntmps34
    go_wp2_with (go_at_call 40; refine (IsAbsence_any _ _ L _ _ a _ _ n _ (hm.below (by (repeat (first | exact Below.refl _ _ | assumption | (refine Below.alloc ?_ (by first | omega | (simp; done) | (simp; omega)) _) | (refine Below.setCell ?_ (by first | omega | (simp; done) | (simp; omega)) _) | (refine Below.drew ?_) | (refine Below.drewN ?_ _) | (refine Below.next (by assumption) ?_ (by first | omega | (simp; done) | (simp; omega))))))) (ha.below (by (repeat (first | exact Below.refl _ _ | assumption | (refine Below.alloc ?_ (by first | omega | (simp; done) | (simp; omega)) _) | (refine Below.setCell ?_ (by first | omega | (simp; done) | (simp; omega)) _) | (refine Below.drew ?_) | (refine Below.drewN ?_ _) | (refine Below.next (by assumption) ?_ (by first | omega | (simp; done) | (simp; omega))))))) (hn.below (by (repeat (first | exact Below.refl _ _ | assumption | (refine Below.alloc ?_ (by first | omega | (simp; done) | (simp; omega)) _) | (refine Below.setCell ?_ (by first | omega | (simp; done) | (simp; omega)) _) | (refine Below.drew ?_) | (refine Below.drewN ?_ _) | (refine Below.next (by assumption) ?_ (by first | omega | (simp; done) | (simp; omega))))))) hl hl2 hl3 hlc).mono ?_; rintro e w' ⟨he, hq⟩; rw [H1.out] at he; subst he; obtain ⟨hz, hc, hf⟩ := bel hq)
    refine (sparePerformers_any L.length _ _ a _ _ n _ (ha.below (by (repeat (first | exact Below.refl _ _ | assumption | (refine Below.alloc ?_ (by first | omega | (simp; done) | (simp; omega)) _) | (refine Below.setCell ?_ (by first | omega | (simp; done) | (simp; omega)) _) | (refine Below.drew ?_) | (refine Below.drewN ?_ _) | (refine Below.next (by assumption) ?_ (by first | omega | (simp; done) | (simp; omega))))))) (hn.below (by (repeat (first | exact Below.refl _ _ | assumption | (refine Below.alloc ?_ (by first | omega | (simp; done) | (simp; omega)) _) | (refine Below.setCell ?_ (by first | omega | (simp; done) | (simp; omega)) _) | (refine Below.drew ?_) | (refine Below.drewN ?_ _) | (refine Below.next (by assumption) ?_ (by first | omega | (simp; done) | (simp; omega))))))) hl hl2 hl3).mono ?_
    rintro e w1 ⟨A1, c1, rfl, ho, hq1⟩
    go_wp2_with fail
    go_ret2
    exact RetInts.some_ rfl HV.out ho rfl (by omega) (by (repeat (first | exact Below.refl _ _ | assumption | (refine Below.alloc ?_ (by first | omega | (simp; done) | (simp; omega)) _) | (refine Below.setCell ?_ (by first | omega | (simp; done) | (simp; omega)) _) | (refine Below.drew ?_) | (refine Below.drewN ?_ _) | (refine Below.next (by assumption) ?_ (by first | omega | (simp; done) | (simp; omega))))))
set_option maxRecDepth 100000 in
theorem spec_LackingPerformers_any (A : Option Addr) (c : Nat) (L : List Sp) (B : Option Addr) (d : Nat) (a : List Int) (C : Option Addr) (f : Nat) (n : List Int) (w : World) (hm : Mem w A (spots L)) (ha : Mem w B (ints a)) (hn : Mem w C (ints n)) (hl : L.length ≤ 1048576) (hl2 : a.length ≤ 1048576) (hl3 : n.length ≤ 1048576) (hlc : L.length ≤ c) : Calls Try.prog 28 #[.slice A L.length c, .slice B a.length d, .slice C n.length f] w fun e w' => e = .returned (.tuple #[.int .i64 (laV L a n), .bool (abOk L a n)]) ∧ Below w.heap.size w w' := by
  cases h1 : abOk L a n
  all_goals have H1 := Lib.hid h1
  · clear h1
    go_enter Try.func28, Try.ntmps28
    go_wp2_with (go_at_call 43; refine (abAsked_any _ _ L _ _ a _ _ n _ (hm.below (by (repeat (first | exact Below.refl _ _ | assumption | (refine Below.alloc ?_ (by first | omega | (simp; done) | (simp; omega)) _) | (refine Below.setCell ?_ (by first | omega | (simp; done) | (simp; omega)) _) | (refine Below.drew ?_) | (refine Below.drewN ?_ _) | (refine Below.next (by assumption) ?_ (by first | omega | (simp; done) | (simp; omega))))))) (ha.below (by (repeat (first | exact Below.refl _ _ | assumption | (refine Below.alloc ?_ (by first | omega | (simp; done) | (simp; omega)) _) | (refine Below.setCell ?_ (by first | omega | (simp; done) | (simp; omega)) _) | (refine Below.drew ?_) | (refine Below.drewN ?_ _) | (refine Below.next (by assumption) ?_ (by first | omega | (simp; done) | (simp; omega))))))) (hn.below (by (repeat (first | exact Below.refl _ _ | assumption | (refine Below.alloc ?_ (by first | omega | (simp; done) | (simp; omega)) _) | (refine Below.setCell ?_ (by first | omega | (simp; done) | (simp; omega)) _) | (refine Below.drew ?_) | (refine Below.drewN ?_ _) | (refine Below.next (by assumption) ?_ (by first | omega | (simp; done) | (simp; omega))))))) hl hl2 hl3 hlc).mono ?_; rintro e w' ⟨he, hq⟩; rw [H1.out] at he; subst he; obtain ⟨hz, hc, hf⟩ := bel hq)
    go_ret2
    exact ⟨ret_pair (by simp [laV, H1.out]) rfl, by (repeat (first | exact Below.refl _ _ | assumption | (refine Below.alloc ?_ (by first | omega | (simp; done) | (simp; omega)) _) | (refine Below.setCell ?_ (by first | omega | (simp; done) | (simp; omega)) _) | (refine Below.drew ?_) | (refine Below.drewN ?_ _) | (refine Below.next (by assumption) ?_ (by first | omega | (simp; done) | (simp; omega)))))⟩
  · have HV : Hid (laV L a n = max (((opens a n).length : Int) - (spares L.length a n).length) 0) := Lib.hid (by simp [laV, h1])
    have hsl := spares_len L.length a n
    have hol := opens_len a n
    clear h1
    go_enter Try.func28, Try.ntmps28
    go_wp2_with (go_at_call 43; refine (abAsked_any _ _ L _ _ a _ _ n _ (hm.below (by (repeat (first | exact Below.refl _ _ | assumption | (refine Below.alloc ?_ (by first | omega | (simp; done) | (simp; omega)) _) | (refine Below.setCell ?_ (by first | omega | (simp; done) | (simp; omega)) _) | (refine Below.drew ?_) | (refine Below.drewN ?_ _) | (refine Below.next (by assumption) ?_ (by first | omega | (simp; done) | (simp; omega))))))) (ha.below (by (repeat (first | exact Below.refl _ _ | assumption | (refine Below.alloc ?_ (by first | omega | (simp; done) | (simp; omega)) _) | (refine Below.setCell ?_ (by first | omega | (simp; done) | (simp; omega)) _) | (refine Below.drew ?_) | (refine Below.drewN ?_ _) | (refine Below.next (by assumption) ?_ (by first | omega | (simp; done) | (simp; omega))))))) (hn.below (by (repeat (first | exact Below.refl _ _ | assumption | (refine Below.alloc ?_ (by first | omega | (simp; done) | (simp; omega)) _) | (refine Below.setCell ?_ (by first | omega | (simp; done) | (simp; omega)) _) | (refine Below.drew ?_) | (refine Below.drewN ?_ _) | (refine Below.next (by assumption) ?_ (by first | omega | (simp; done) | (simp; omega))))))) hl hl2 hl3 hlc).mono ?_; rintro e w' ⟨he, hq⟩; rw [H1.out] at he; subst he; obtain ⟨hz, hc, hf⟩ := bel hq)
    refine (abOpen_any _ _ a _ _ n _ (ha.below (by (repeat (first | exact Below.refl _ _ | assumption | (refine Below.alloc ?_ (by first | omega | (simp; done) | (simp; omega)) _) | (refine Below.setCell ?_ (by first | omega | (simp; done) | (simp; omega)) _) | (refine Below.drew ?_) | (refine Below.drewN ?_ _) | (refine Below.next (by assumption) ?_ (by first | omega | (simp; done) | (simp; omega))))))) (hn.below (by (repeat (first | exact Below.refl _ _ | assumption | (refine Below.alloc ?_ (by first | omega | (simp; done) | (simp; omega)) _) | (refine Below.setCell ?_ (by first | omega | (simp; done) | (simp; omega)) _) | (refine Below.drew ?_) | (refine Below.drewN ?_ _) | (refine Below.next (by assumption) ?_ (by first | omega | (simp; done) | (simp; omega))))))) hl2 hl3).mono ?_
    rintro e w1 ⟨A1, c1, rfl, ho, hq1⟩
    have hz1 := hq1.size
    go_wp2_with fail
    refine (abSpare_any _ _ L _ _ a _ _ n _ (ha.below (by (repeat (first | exact Below.refl _ _ | assumption | (refine Below.alloc ?_ (by first | omega | (simp; done) | (simp; omega)) _) | (refine Below.setCell ?_ (by first | omega | (simp; done) | (simp; omega)) _) | (refine Below.drew ?_) | (refine Below.drewN ?_ _) | (refine Below.next (by assumption) ?_ (by first | omega | (simp; done) | (simp; omega))))))) (hn.below (by (repeat (first | exact Below.refl _ _ | assumption | (refine Below.alloc ?_ (by first | omega | (simp; done) | (simp; omega)) _) | (refine Below.setCell ?_ (by first | omega | (simp; done) | (simp; omega)) _) | (refine Below.drew ?_) | (refine Below.drewN ?_ _) | (refine Below.next (by assumption) ?_ (by first | omega | (simp; done) | (simp; omega))))))) hl hl2 hl3).mono ?_
    rintro e w2 ⟨A2, c2, rfl, ho2, hq2⟩
    go_wp2_with (first | (go_at_call 62; refine (l1Most_any _ _ _).mono ?_; rintro e w' ⟨rfl, rfl⟩))
    all_goals
      go_ret2
      exact ⟨ret_pair (by rw [HV.out]; first | omega | (split <;> omega)) rfl, by (repeat (first | exact Below.refl _ _ | assumption | (refine Below.alloc ?_ (by first | omega | (simp; done) | (simp; omega)) _) | (refine Below.setCell ?_ (by first | omega | (simp; done) | (simp; omega)) _) | (refine Below.drew ?_) | (refine Below.drewN ?_ _) | (refine Below.next (by assumption) ?_ (by first | omega | (simp; done) | (simp; omega)))))⟩
set_option maxRecDepth 100000 in
theorem impl_LackingPerformers_any (A : Option Addr) (c : Nat) (L : List Sp) (B : Option Addr) (d : Nat) (a : List Int) (C : Option Addr) (f : Nat) (n : List Int) (w : World) (hm : Mem w A (spots L)) (ha : Mem w B (ints a)) (hn : Mem w C (ints n)) (hl : L.length ≤ 1048576) (hl2 : a.length ≤ 1048576) (hl3 : n.length ≤ 1048576) (hlc : L.length ≤ c) : Calls Try.prog 27 #[.slice A L.length c, .slice B a.length d, .slice C n.length f] w fun e w' => e = .returned (.tuple #[.int .i64 (laV L a n), .bool (abOk L a n)]) ∧ Below w.heap.size w w' := by
  cases h1 : abOk L a n
  all_goals have H1 := Lib.hid h1
  · clear h1
    go_enter Try.func27, Try.ntmps27
    go_wp2_with (go_at_call 40; refine (IsAbsence_any _ _ L _ _ a _ _ n _ (hm.below (by (repeat (first | exact Below.refl _ _ | assumption | (refine Below.alloc ?_ (by first | omega | (simp; done) | (simp; omega)) _) | (refine Below.setCell ?_ (by first | omega | (simp; done) | (simp; omega)) _) | (refine Below.drew ?_) | (refine Below.drewN ?_ _) | (refine Below.next (by assumption) ?_ (by first | omega | (simp; done) | (simp; omega))))))) (ha.below (by (repeat (first | exact Below.refl _ _ | assumption | (refine Below.alloc ?_ (by first | omega | (simp; done) | (simp; omega)) _) | (refine Below.setCell ?_ (by first | omega | (simp; done) | (simp; omega)) _) | (refine Below.drew ?_) | (refine Below.drewN ?_ _) | (refine Below.next (by assumption) ?_ (by first | omega | (simp; done) | (simp; omega))))))) (hn.below (by (repeat (first | exact Below.refl _ _ | assumption | (refine Below.alloc ?_ (by first | omega | (simp; done) | (simp; omega)) _) | (refine Below.setCell ?_ (by first | omega | (simp; done) | (simp; omega)) _) | (refine Below.drew ?_) | (refine Below.drewN ?_ _) | (refine Below.next (by assumption) ?_ (by first | omega | (simp; done) | (simp; omega))))))) hl hl2 hl3 hlc).mono ?_; rintro e w' ⟨he, hq⟩; rw [H1.out] at he; subst he; obtain ⟨hz, hc, hf⟩ := bel hq)
    go_ret2
    exact ⟨ret_pair (by simp [laV, H1.out]) rfl, by (repeat (first | exact Below.refl _ _ | assumption | (refine Below.alloc ?_ (by first | omega | (simp; done) | (simp; omega)) _) | (refine Below.setCell ?_ (by first | omega | (simp; done) | (simp; omega)) _) | (refine Below.drew ?_) | (refine Below.drewN ?_ _) | (refine Below.next (by assumption) ?_ (by first | omega | (simp; done) | (simp; omega)))))⟩
  · have HV : Hid (laV L a n = max (((opens a n).length : Int) - (spares L.length a n).length) 0) := Lib.hid (by simp [laV, h1])
    have hsl := spares_len L.length a n
    have hol := opens_len a n
    clear h1
    go_enter Try.func27, Try.ntmps27
    go_wp2_with (go_at_call 40; refine (IsAbsence_any _ _ L _ _ a _ _ n _ (hm.below (by (repeat (first | exact Below.refl _ _ | assumption | (refine Below.alloc ?_ (by first | omega | (simp; done) | (simp; omega)) _) | (refine Below.setCell ?_ (by first | omega | (simp; done) | (simp; omega)) _) | (refine Below.drew ?_) | (refine Below.drewN ?_ _) | (refine Below.next (by assumption) ?_ (by first | omega | (simp; done) | (simp; omega))))))) (ha.below (by (repeat (first | exact Below.refl _ _ | assumption | (refine Below.alloc ?_ (by first | omega | (simp; done) | (simp; omega)) _) | (refine Below.setCell ?_ (by first | omega | (simp; done) | (simp; omega)) _) | (refine Below.drew ?_) | (refine Below.drewN ?_ _) | (refine Below.next (by assumption) ?_ (by first | omega | (simp; done) | (simp; omega))))))) (hn.below (by (repeat (first | exact Below.refl _ _ | assumption | (refine Below.alloc ?_ (by first | omega | (simp; done) | (simp; omega)) _) | (refine Below.setCell ?_ (by first | omega | (simp; done) | (simp; omega)) _) | (refine Below.drew ?_) | (refine Below.drewN ?_ _) | (refine Below.next (by assumption) ?_ (by first | omega | (simp; done) | (simp; omega))))))) hl hl2 hl3 hlc).mono ?_; rintro e w' ⟨he, hq⟩; rw [H1.out] at he; subst he; obtain ⟨hz, hc, hf⟩ := bel hq)
    refine (openSpots_any _ _ a _ _ n _ (ha.below (by (repeat (first | exact Below.refl _ _ | assumption | (refine Below.alloc ?_ (by first | omega | (simp; done) | (simp; omega)) _) | (refine Below.setCell ?_ (by first | omega | (simp; done) | (simp; omega)) _) | (refine Below.drew ?_) | (refine Below.drewN ?_ _) | (refine Below.next (by assumption) ?_ (by first | omega | (simp; done) | (simp; omega))))))) (hn.below (by (repeat (first | exact Below.refl _ _ | assumption | (refine Below.alloc ?_ (by first | omega | (simp; done) | (simp; omega)) _) | (refine Below.setCell ?_ (by first | omega | (simp; done) | (simp; omega)) _) | (refine Below.drew ?_) | (refine Below.drewN ?_ _) | (refine Below.next (by assumption) ?_ (by first | omega | (simp; done) | (simp; omega))))))) hl2 hl3).mono ?_
    rintro e w1 ⟨A1, c1, rfl, ho, hq1⟩
    have hz1 := hq1.size
    go_wp2_with fail
    refine (sparePerformers_any L.length _ _ a _ _ n _ (ha.below (by (repeat (first | exact Below.refl _ _ | assumption | (refine Below.alloc ?_ (by first | omega | (simp; done) | (simp; omega)) _) | (refine Below.setCell ?_ (by first | omega | (simp; done) | (simp; omega)) _) | (refine Below.drew ?_) | (refine Below.drewN ?_ _) | (refine Below.next (by assumption) ?_ (by first | omega | (simp; done) | (simp; omega))))))) (hn.below (by (repeat (first | exact Below.refl _ _ | assumption | (refine Below.alloc ?_ (by first | omega | (simp; done) | (simp; omega)) _) | (refine Below.setCell ?_ (by first | omega | (simp; done) | (simp; omega)) _) | (refine Below.drew ?_) | (refine Below.drewN ?_ _) | (refine Below.next (by assumption) ?_ (by first | omega | (simp; done) | (simp; omega))))))) hl hl2 hl3).mono ?_
    rintro e w2 ⟨A2, c2, rfl, ho2, hq2⟩
    go_wp2_with (first | (go_at_call 62; refine (l1Most_any _ _ _).mono ?_; rintro e w' ⟨rfl, rfl⟩))
    all_goals
      go_ret2
      exact ⟨ret_pair (by rw [HV.out]; first | omega | (split <;> omega)) rfl, by (repeat (first | exact Below.refl _ _ | assumption | (refine Below.alloc ?_ (by first | omega | (simp; done) | (simp; omega)) _) | (refine Below.setCell ?_ (by first | omega | (simp; done) | (simp; omega)) _) | (refine Below.drew ?_) | (refine Below.drewN ?_ _) | (refine Below.next (by assumption) ?_ (by first | omega | (simp; done) | (simp; omega)))))⟩
set_option maxRecDepth 100000 in
theorem spec_IsCoverOf_any (A : Option Addr) (c : Nat) (L : List Sp) (B : Option Addr) (d : Nat) (a : List Int) (C : Option Addr) (f : Nat) (n : List Int) (D : Option Addr) (g : Nat) (mv : List Int) (w : World) (hm : Mem w A (spots L)) (ha : Mem w B (ints a)) (hn : Mem w C (ints n)) (hv : Mem w D (ints mv)) (hl : L.length ≤ 1048576) (hl2 : a.length ≤ 1048576) (hl3 : n.length ≤ 1048576) (hl4 : mv.length ≤ 1048576) (hlc : L.length ≤ c) (hvc : mv.length ≤ g) : Calls Try.prog 38 #[.slice A L.length c, .slice B a.length d, .slice C n.length f, .slice D mv.length g] w fun e w' => e = .returned (.tuple #[.bool (icV L a n mv), .bool (abOk L a n)]) ∧ Below w.heap.size w w' := by
  cases h1 : abOk L a n
  all_goals have H1 := Lib.hid h1
  · clear h1
    go_enter Try.func38, Try.ntmps38
    go_wp2_with (go_at_call 43; refine (abAsked_any _ _ L _ _ a _ _ n _ (hm.below (by (repeat (first | exact Below.refl _ _ | assumption | (refine Below.alloc ?_ (by first | omega | (simp; done) | (simp; omega)) _) | (refine Below.setCell ?_ (by first | omega | (simp; done) | (simp; omega)) _) | (refine Below.drew ?_) | (refine Below.drewN ?_ _) | (refine Below.next (by assumption) ?_ (by first | omega | (simp; done) | (simp; omega))))))) (ha.below (by (repeat (first | exact Below.refl _ _ | assumption | (refine Below.alloc ?_ (by first | omega | (simp; done) | (simp; omega)) _) | (refine Below.setCell ?_ (by first | omega | (simp; done) | (simp; omega)) _) | (refine Below.drew ?_) | (refine Below.drewN ?_ _) | (refine Below.next (by assumption) ?_ (by first | omega | (simp; done) | (simp; omega))))))) (hn.below (by (repeat (first | exact Below.refl _ _ | assumption | (refine Below.alloc ?_ (by first | omega | (simp; done) | (simp; omega)) _) | (refine Below.setCell ?_ (by first | omega | (simp; done) | (simp; omega)) _) | (refine Below.drew ?_) | (refine Below.drewN ?_ _) | (refine Below.next (by assumption) ?_ (by first | omega | (simp; done) | (simp; omega))))))) hl hl2 hl3 hlc).mono ?_; rintro e w' ⟨he, hq⟩; rw [H1.out] at he; subst he; obtain ⟨hz, hc, hf⟩ := bel hq)
    go_ret2
    exact ⟨ret_bools (by simp [icV, H1.out]) rfl, by (repeat (first | exact Below.refl _ _ | assumption | (refine Below.alloc ?_ (by first | omega | (simp; done) | (simp; omega)) _) | (refine Below.setCell ?_ (by first | omega | (simp; done) | (simp; omega)) _) | (refine Below.drew ?_) | (refine Below.drewN ?_ _) | (refine Below.next (by assumption) ?_ (by first | omega | (simp; done) | (simp; omega)))))⟩
  · have HV : Hid (icV L a n mv = covOk L.length a n mv) := Lib.hid (by simp [icV, h1])
    clear h1
    go_enter Try.func38, Try.ntmps38
    go_wp2_with (go_at_call 43; refine (abAsked_any _ _ L _ _ a _ _ n _ (hm.below (by (repeat (first | exact Below.refl _ _ | assumption | (refine Below.alloc ?_ (by first | omega | (simp; done) | (simp; omega)) _) | (refine Below.setCell ?_ (by first | omega | (simp; done) | (simp; omega)) _) | (refine Below.drew ?_) | (refine Below.drewN ?_ _) | (refine Below.next (by assumption) ?_ (by first | omega | (simp; done) | (simp; omega))))))) (ha.below (by (repeat (first | exact Below.refl _ _ | assumption | (refine Below.alloc ?_ (by first | omega | (simp; done) | (simp; omega)) _) | (refine Below.setCell ?_ (by first | omega | (simp; done) | (simp; omega)) _) | (refine Below.drew ?_) | (refine Below.drewN ?_ _) | (refine Below.next (by assumption) ?_ (by first | omega | (simp; done) | (simp; omega))))))) (hn.below (by (repeat (first | exact Below.refl _ _ | assumption | (refine Below.alloc ?_ (by first | omega | (simp; done) | (simp; omega)) _) | (refine Below.setCell ?_ (by first | omega | (simp; done) | (simp; omega)) _) | (refine Below.drew ?_) | (refine Below.drewN ?_ _) | (refine Below.next (by assumption) ?_ (by first | omega | (simp; done) | (simp; omega))))))) hl hl2 hl3 hlc).mono ?_; rintro e w' ⟨he, hq⟩; rw [H1.out] at he; subst he; obtain ⟨hz, hc, hf⟩ := bel hq)
    refine (abCover_any _ _ L _ _ a _ _ n _ _ mv _ (ha.below (by (repeat (first | exact Below.refl _ _ | assumption | (refine Below.alloc ?_ (by first | omega | (simp; done) | (simp; omega)) _) | (refine Below.setCell ?_ (by first | omega | (simp; done) | (simp; omega)) _) | (refine Below.drew ?_) | (refine Below.drewN ?_ _) | (refine Below.next (by assumption) ?_ (by first | omega | (simp; done) | (simp; omega))))))) (hn.below (by (repeat (first | exact Below.refl _ _ | assumption | (refine Below.alloc ?_ (by first | omega | (simp; done) | (simp; omega)) _) | (refine Below.setCell ?_ (by first | omega | (simp; done) | (simp; omega)) _) | (refine Below.drew ?_) | (refine Below.drewN ?_ _) | (refine Below.next (by assumption) ?_ (by first | omega | (simp; done) | (simp; omega))))))) (hv.below (by (repeat (first | exact Below.refl _ _ | assumption | (refine Below.alloc ?_ (by first | omega | (simp; done) | (simp; omega)) _) | (refine Below.setCell ?_ (by first | omega | (simp; done) | (simp; omega)) _) | (refine Below.drew ?_) | (refine Below.drewN ?_ _) | (refine Below.next (by assumption) ?_ (by first | omega | (simp; done) | (simp; omega))))))) hl hl2 hl3 hl4 hvc).mono ?_
    rintro e w1 ⟨rfl, hq1⟩
    go_wp2_with fail
    go_ret2
    exact ⟨ret_bools HV.out.symm rfl, by (repeat (first | exact Below.refl _ _ | assumption | (refine Below.alloc ?_ (by first | omega | (simp; done) | (simp; omega)) _) | (refine Below.setCell ?_ (by first | omega | (simp; done) | (simp; omega)) _) | (refine Below.drew ?_) | (refine Below.drewN ?_ _) | (refine Below.next (by assumption) ?_ (by first | omega | (simp; done) | (simp; omega)))))⟩
set_option maxRecDepth 100000 in
theorem impl_IsCoverOf_any (A : Option Addr) (c : Nat) (L : List Sp) (B : Option Addr) (d : Nat) (a : List Int) (C : Option Addr) (f : Nat) (n : List Int) (D : Option Addr) (g : Nat) (mv : List Int) (w : World) (hm : Mem w A (spots L)) (ha : Mem w B (ints a)) (hn : Mem w C (ints n)) (hv : Mem w D (ints mv)) (hl : L.length ≤ 1048576) (hl2 : a.length ≤ 1048576) (hl3 : n.length ≤ 1048576) (hl4 : mv.length ≤ 1048576) (hlc : L.length ≤ c) (hvc : mv.length ≤ g) : Calls Try.prog 37 #[.slice A L.length c, .slice B a.length d, .slice C n.length f, .slice D mv.length g] w fun e w' => e = .returned (.tuple #[.bool (icV L a n mv), .bool (abOk L a n)]) ∧ Below w.heap.size w w' := by
  cases h1 : abOk L a n
  all_goals have H1 := Lib.hid h1
  · clear h1
    go_enter Try.func37, Try.ntmps37
    go_wp2_with (go_at_call 40; refine (IsAbsence_any _ _ L _ _ a _ _ n _ (hm.below (by (repeat (first | exact Below.refl _ _ | assumption | (refine Below.alloc ?_ (by first | omega | (simp; done) | (simp; omega)) _) | (refine Below.setCell ?_ (by first | omega | (simp; done) | (simp; omega)) _) | (refine Below.drew ?_) | (refine Below.drewN ?_ _) | (refine Below.next (by assumption) ?_ (by first | omega | (simp; done) | (simp; omega))))))) (ha.below (by (repeat (first | exact Below.refl _ _ | assumption | (refine Below.alloc ?_ (by first | omega | (simp; done) | (simp; omega)) _) | (refine Below.setCell ?_ (by first | omega | (simp; done) | (simp; omega)) _) | (refine Below.drew ?_) | (refine Below.drewN ?_ _) | (refine Below.next (by assumption) ?_ (by first | omega | (simp; done) | (simp; omega))))))) (hn.below (by (repeat (first | exact Below.refl _ _ | assumption | (refine Below.alloc ?_ (by first | omega | (simp; done) | (simp; omega)) _) | (refine Below.setCell ?_ (by first | omega | (simp; done) | (simp; omega)) _) | (refine Below.drew ?_) | (refine Below.drewN ?_ _) | (refine Below.next (by assumption) ?_ (by first | omega | (simp; done) | (simp; omega))))))) hl hl2 hl3 hlc).mono ?_; rintro e w' ⟨he, hq⟩; rw [H1.out] at he; subst he; obtain ⟨hz, hc, hf⟩ := bel hq)
    go_ret2
    exact ⟨ret_bools (by simp [icV, H1.out]) rfl, by (repeat (first | exact Below.refl _ _ | assumption | (refine Below.alloc ?_ (by first | omega | (simp; done) | (simp; omega)) _) | (refine Below.setCell ?_ (by first | omega | (simp; done) | (simp; omega)) _) | (refine Below.drew ?_) | (refine Below.drewN ?_ _) | (refine Below.next (by assumption) ?_ (by first | omega | (simp; done) | (simp; omega)))))⟩
  · have HV : Hid (icV L a n mv = covOk L.length a n mv) := Lib.hid (by simp [icV, h1])
    clear h1
    go_enter Try.func37, Try.ntmps37
    go_wp2_with (go_at_call 40; refine (IsAbsence_any _ _ L _ _ a _ _ n _ (hm.below (by (repeat (first | exact Below.refl _ _ | assumption | (refine Below.alloc ?_ (by first | omega | (simp; done) | (simp; omega)) _) | (refine Below.setCell ?_ (by first | omega | (simp; done) | (simp; omega)) _) | (refine Below.drew ?_) | (refine Below.drewN ?_ _) | (refine Below.next (by assumption) ?_ (by first | omega | (simp; done) | (simp; omega))))))) (ha.below (by (repeat (first | exact Below.refl _ _ | assumption | (refine Below.alloc ?_ (by first | omega | (simp; done) | (simp; omega)) _) | (refine Below.setCell ?_ (by first | omega | (simp; done) | (simp; omega)) _) | (refine Below.drew ?_) | (refine Below.drewN ?_ _) | (refine Below.next (by assumption) ?_ (by first | omega | (simp; done) | (simp; omega))))))) (hn.below (by (repeat (first | exact Below.refl _ _ | assumption | (refine Below.alloc ?_ (by first | omega | (simp; done) | (simp; omega)) _) | (refine Below.setCell ?_ (by first | omega | (simp; done) | (simp; omega)) _) | (refine Below.drew ?_) | (refine Below.drewN ?_ _) | (refine Below.next (by assumption) ?_ (by first | omega | (simp; done) | (simp; omega))))))) hl hl2 hl3 hlc).mono ?_; rintro e w' ⟨he, hq⟩; rw [H1.out] at he; subst he; obtain ⟨hz, hc, hf⟩ := bel hq)
    refine (isCover_any L.length _ _ a _ _ n _ _ mv _ (ha.below (by (repeat (first | exact Below.refl _ _ | assumption | (refine Below.alloc ?_ (by first | omega | (simp; done) | (simp; omega)) _) | (refine Below.setCell ?_ (by first | omega | (simp; done) | (simp; omega)) _) | (refine Below.drew ?_) | (refine Below.drewN ?_ _) | (refine Below.next (by assumption) ?_ (by first | omega | (simp; done) | (simp; omega))))))) (hn.below (by (repeat (first | exact Below.refl _ _ | assumption | (refine Below.alloc ?_ (by first | omega | (simp; done) | (simp; omega)) _) | (refine Below.setCell ?_ (by first | omega | (simp; done) | (simp; omega)) _) | (refine Below.drew ?_) | (refine Below.drewN ?_ _) | (refine Below.next (by assumption) ?_ (by first | omega | (simp; done) | (simp; omega))))))) (hv.below (by (repeat (first | exact Below.refl _ _ | assumption | (refine Below.alloc ?_ (by first | omega | (simp; done) | (simp; omega)) _) | (refine Below.setCell ?_ (by first | omega | (simp; done) | (simp; omega)) _) | (refine Below.drew ?_) | (refine Below.drewN ?_ _) | (refine Below.next (by assumption) ?_ (by first | omega | (simp; done) | (simp; omega))))))) hl hl2 hl3 hl4 hvc).mono ?_
    rintro e w1 ⟨rfl, hq1⟩
    go_wp2_with fail
    go_ret2
    exact ⟨ret_bools HV.out.symm rfl, by (repeat (first | exact Below.refl _ _ | assumption | (refine Below.alloc ?_ (by first | omega | (simp; done) | (simp; omega)) _) | (refine Below.setCell ?_ (by first | omega | (simp; done) | (simp; omega)) _) | (refine Below.drew ?_) | (refine Below.drewN ?_ _) | (refine Below.next (by assumption) ?_ (by first | omega | (simp; done) | (simp; omega)))))⟩
set_option maxRecDepth 100000 in
set_option maxHeartbeats 3200000 in
theorem spec_CoverSum_any (A : Option Addr) (c : Nat) (L : List Sp) (B : Option Addr) (d : Nat) (a : List Int) (C : Option Addr) (f : Nat) (n : List Int) (D : Option Addr) (g : Nat) (mv : List Int) (w : World) (hm : Mem w A (spots L)) (ha : Mem w B (ints a)) (hn : Mem w C (ints n)) (hv : Mem w D (ints mv)) (hl : L.length ≤ 1048576) (hl2 : a.length ≤ 1048576) (hl3 : n.length ≤ 1048576) (hl4 : mv.length ≤ 1048576) (hlc : L.length ≤ c) (hvc : mv.length ≤ g) : Calls Try.prog 22 #[.slice A L.length c, .slice B a.length d, .slice C n.length f, .slice D mv.length g] w fun e w' => e = .returned (.tuple #[.int .i64 (csV L a n mv), .bool (csOk L a n mv)]) ∧ Below w.heap.size w w' := by
  cases h1 : abOk L a n
  all_goals have H1 := Lib.hid h1
  · clear h1
    go_enter Try.func22, Try.ntmps22
    go_wp2_with (go_at_call 43; refine (abAsked_any _ _ L _ _ a _ _ n _ (hm.below (by (repeat (first | exact Below.refl _ _ | assumption | (refine Below.alloc ?_ (by first | omega | (simp; done) | (simp; omega)) _) | (refine Below.setCell ?_ (by first | omega | (simp; done) | (simp; omega)) _) | (refine Below.drew ?_) | (refine Below.drewN ?_ _) | (refine Below.next (by assumption) ?_ (by first | omega | (simp; done) | (simp; omega))))))) (ha.below (by (repeat (first | exact Below.refl _ _ | assumption | (refine Below.alloc ?_ (by first | omega | (simp; done) | (simp; omega)) _) | (refine Below.setCell ?_ (by first | omega | (simp; done) | (simp; omega)) _) | (refine Below.drew ?_) | (refine Below.drewN ?_ _) | (refine Below.next (by assumption) ?_ (by first | omega | (simp; done) | (simp; omega))))))) (hn.below (by (repeat (first | exact Below.refl _ _ | assumption | (refine Below.alloc ?_ (by first | omega | (simp; done) | (simp; omega)) _) | (refine Below.setCell ?_ (by first | omega | (simp; done) | (simp; omega)) _) | (refine Below.drew ?_) | (refine Below.drewN ?_ _) | (refine Below.next (by assumption) ?_ (by first | omega | (simp; done) | (simp; omega))))))) hl hl2 hl3 hlc).mono ?_; rintro e w' ⟨he, hq⟩; rw [H1.out] at he; subst he; obtain ⟨hz, hc, hf⟩ := bel hq)
    go_ret2
    exact ⟨ret_pair (by simp [csV, csOk, H1.out]) (by simp [csOk, H1.out]), by (repeat (first | exact Below.refl _ _ | assumption | (refine Below.alloc ?_ (by first | omega | (simp; done) | (simp; omega)) _) | (refine Below.setCell ?_ (by first | omega | (simp; done) | (simp; omega)) _) | (refine Below.drew ?_) | (refine Below.drewN ?_ _) | (refine Below.next (by assumption) ?_ (by first | omega | (simp; done) | (simp; omega)))))⟩
  cases h2 : covOk L.length a n mv
  all_goals have H2 := Lib.hid h2
  · clear h1 h2
    go_enter Try.func22, Try.ntmps22
    go_wp2_with (first | (go_at_call 43; refine (abAsked_any _ _ L _ _ a _ _ n _ (hm.below (by (repeat (first | exact Below.refl _ _ | assumption | (refine Below.alloc ?_ (by first | omega | (simp; done) | (simp; omega)) _) | (refine Below.setCell ?_ (by first | omega | (simp; done) | (simp; omega)) _) | (refine Below.drew ?_) | (refine Below.drewN ?_ _) | (refine Below.next (by assumption) ?_ (by first | omega | (simp; done) | (simp; omega))))))) (ha.below (by (repeat (first | exact Below.refl _ _ | assumption | (refine Below.alloc ?_ (by first | omega | (simp; done) | (simp; omega)) _) | (refine Below.setCell ?_ (by first | omega | (simp; done) | (simp; omega)) _) | (refine Below.drew ?_) | (refine Below.drewN ?_ _) | (refine Below.next (by assumption) ?_ (by first | omega | (simp; done) | (simp; omega))))))) (hn.below (by (repeat (first | exact Below.refl _ _ | assumption | (refine Below.alloc ?_ (by first | omega | (simp; done) | (simp; omega)) _) | (refine Below.setCell ?_ (by first | omega | (simp; done) | (simp; omega)) _) | (refine Below.drew ?_) | (refine Below.drewN ?_ _) | (refine Below.next (by assumption) ?_ (by first | omega | (simp; done) | (simp; omega))))))) hl hl2 hl3 hlc).mono ?_; rintro e w' ⟨he, hq⟩; rw [H1.out] at he; subst he; obtain ⟨hz, hc, hf⟩ := bel hq) | (go_at_call 53; refine (abCover_any _ _ L _ _ a _ _ n _ _ mv _ (ha.below (by (repeat (first | exact Below.refl _ _ | assumption | (refine Below.alloc ?_ (by first | omega | (simp; done) | (simp; omega)) _) | (refine Below.setCell ?_ (by first | omega | (simp; done) | (simp; omega)) _) | (refine Below.drew ?_) | (refine Below.drewN ?_ _) | (refine Below.next (by assumption) ?_ (by first | omega | (simp; done) | (simp; omega))))))) (hn.below (by (repeat (first | exact Below.refl _ _ | assumption | (refine Below.alloc ?_ (by first | omega | (simp; done) | (simp; omega)) _) | (refine Below.setCell ?_ (by first | omega | (simp; done) | (simp; omega)) _) | (refine Below.drew ?_) | (refine Below.drewN ?_ _) | (refine Below.next (by assumption) ?_ (by first | omega | (simp; done) | (simp; omega))))))) (hv.below (by (repeat (first | exact Below.refl _ _ | assumption | (refine Below.alloc ?_ (by first | omega | (simp; done) | (simp; omega)) _) | (refine Below.setCell ?_ (by first | omega | (simp; done) | (simp; omega)) _) | (refine Below.drew ?_) | (refine Below.drewN ?_ _) | (refine Below.next (by assumption) ?_ (by first | omega | (simp; done) | (simp; omega))))))) hl hl2 hl3 hl4 hvc).mono ?_; rintro e w' ⟨he, hq2⟩; rw [H2.out] at he; subst he; obtain ⟨hz2, hc2, hf2⟩ := bel hq2))
    go_ret2
    exact ⟨ret_pair (by simp [csV, csOk, H2.out]) (by simp [csOk, H2.out]), by (repeat (first | exact Below.refl _ _ | assumption | (refine Below.alloc ?_ (by first | omega | (simp; done) | (simp; omega)) _) | (refine Below.setCell ?_ (by first | omega | (simp; done) | (simp; omega)) _) | (refine Below.drew ?_) | (refine Below.drewN ?_ _) | (refine Below.next (by assumption) ?_ (by first | omega | (simp; done) | (simp; omega)))))⟩
  have HV : Hid (csV L a n mv = cTo L mv (opens a n) (opens a n).length ∧ csOk L a n mv = true) := Lib.hid (by simp [csV, csOk, h1, h2])
  have hlen := ab_lens h1
  have HG := Lib.hid (ch_all (abOk_iff.1 h1).1)
  have HLE := Lib.hid (covOk_iff.1 h2).2
  have hol := opens_len a n
  clear h1 h2
  go_enter Try.func22, Try.ntmps22
  go_wp2_with (first | (go_at_call 43; refine (abAsked_any _ _ L _ _ a _ _ n _ (hm.below (by (repeat (first | exact Below.refl _ _ | assumption | (refine Below.alloc ?_ (by first | omega | (simp; done) | (simp; omega)) _) | (refine Below.setCell ?_ (by first | omega | (simp; done) | (simp; omega)) _) | (refine Below.drew ?_) | (refine Below.drewN ?_ _) | (refine Below.next (by assumption) ?_ (by first | omega | (simp; done) | (simp; omega))))))) (ha.below (by (repeat (first | exact Below.refl _ _ | assumption | (refine Below.alloc ?_ (by first | omega | (simp; done) | (simp; omega)) _) | (refine Below.setCell ?_ (by first | omega | (simp; done) | (simp; omega)) _) | (refine Below.drew ?_) | (refine Below.drewN ?_ _) | (refine Below.next (by assumption) ?_ (by first | omega | (simp; done) | (simp; omega))))))) (hn.below (by (repeat (first | exact Below.refl _ _ | assumption | (refine Below.alloc ?_ (by first | omega | (simp; done) | (simp; omega)) _) | (refine Below.setCell ?_ (by first | omega | (simp; done) | (simp; omega)) _) | (refine Below.drew ?_) | (refine Below.drewN ?_ _) | (refine Below.next (by assumption) ?_ (by first | omega | (simp; done) | (simp; omega))))))) hl hl2 hl3 hlc).mono ?_; rintro e w' ⟨he, hq⟩; rw [H1.out] at he; subst he; obtain ⟨hz, hc, hf⟩ := bel hq) | (go_at_call 53; refine (abCover_any _ _ L _ _ a _ _ n _ _ mv _ (ha.below (by (repeat (first | exact Below.refl _ _ | assumption | (refine Below.alloc ?_ (by first | omega | (simp; done) | (simp; omega)) _) | (refine Below.setCell ?_ (by first | omega | (simp; done) | (simp; omega)) _) | (refine Below.drew ?_) | (refine Below.drewN ?_ _) | (refine Below.next (by assumption) ?_ (by first | omega | (simp; done) | (simp; omega))))))) (hn.below (by (repeat (first | exact Below.refl _ _ | assumption | (refine Below.alloc ?_ (by first | omega | (simp; done) | (simp; omega)) _) | (refine Below.setCell ?_ (by first | omega | (simp; done) | (simp; omega)) _) | (refine Below.drew ?_) | (refine Below.drewN ?_ _) | (refine Below.next (by assumption) ?_ (by first | omega | (simp; done) | (simp; omega))))))) (hv.below (by (repeat (first | exact Below.refl _ _ | assumption | (refine Below.alloc ?_ (by first | omega | (simp; done) | (simp; omega)) _) | (refine Below.setCell ?_ (by first | omega | (simp; done) | (simp; omega)) _) | (refine Below.drew ?_) | (refine Below.drewN ?_ _) | (refine Below.next (by assumption) ?_ (by first | omega | (simp; done) | (simp; omega))))))) hl hl2 hl3 hl4 hvc).mono ?_; rintro e w' ⟨he, hq2⟩; rw [H2.out] at he; subst he; obtain ⟨hz2, hc2, hf2⟩ := bel hq2))
  refine (abOpen_any _ _ a _ _ n _ (ha.below (by (repeat (first | exact Below.refl _ _ | assumption | (refine Below.alloc ?_ (by first | omega | (simp; done) | (simp; omega)) _) | (refine Below.setCell ?_ (by first | omega | (simp; done) | (simp; omega)) _) | (refine Below.drew ?_) | (refine Below.drewN ?_ _) | (refine Below.next (by assumption) ?_ (by first | omega | (simp; done) | (simp; omega))))))) (hn.below (by (repeat (first | exact Below.refl _ _ | assumption | (refine Below.alloc ?_ (by first | omega | (simp; done) | (simp; omega)) _) | (refine Below.setCell ?_ (by first | omega | (simp; done) | (simp; omega)) _) | (refine Below.drew ?_) | (refine Below.drewN ?_ _) | (refine Below.next (by assumption) ?_ (by first | omega | (simp; done) | (simp; omega))))))) hl2 hl3).mono ?_
  rintro e w1 ⟨A1, c1, rfl, ho, hq1⟩
  have hb1 : Below w.heap.size w w1 := by (repeat (first | exact Below.refl _ _ | assumption | (refine Below.alloc ?_ (by first | omega | (simp; done) | (simp; omega)) _) | (refine Below.setCell ?_ (by first | omega | (simp; done) | (simp; omega)) _) | (refine Below.drew ?_) | (refine Below.drewN ?_ _) | (refine Below.next (by assumption) ?_ (by first | omega | (simp; done) | (simp; omega)))))
  have HO := Lib.hid ho
  clear hq hz hc hf hq2 hz2 hc2 hf2 hq1 ho
  go_wp2_with fail
  go_loopw [10, 11, 12, 30] (fun sum _ _ i wr => ∃ (k : Nat) (x : Int), k ≤ (opens a n).length ∧ i = .int .i64 k ∧ sum = .int .i64 x ∧ 0 ≤ x ∧ x ≤ 2089984 * k ∧ Below w1.heap.size w1 wr ∧ Hid (cTo L mv (opens a n) k = x)) (fun _ _ _ i _ => (opens a n).length - (intOf i).toNat)
  case atStart => exact ⟨0, 0, by omega, rfl, rfl, by omega, by omega, Below.refl _ _, Lib.hid rfl⟩
  case round =>
    obtain ⟨k, x, hk, rfl, rfl, hx0, hx1, hb, H⟩ := hrel
    have hb2 := Below.next hb hb1 hb1.size
    by_cases hlt : k < (opens a n).length
    · obtain ⟨y, hy⟩ := some_of_lt hlt
      obtain ⟨y, rfl, hyl⟩ := op_nat H1.out hy
      obtain ⟨z, hzz⟩ := some_of_lt (L := mv) (k := k) (by have := HLE.out; omega)
      have hkm : k < mv.length := by have := HLE.out; omega
      obtain ⟨z, rfl, hzl⟩ := mv_nat H2.out hzz
      obtain ⟨s, hs⟩ := some_of_lt hzl
      obtain ⟨u, hu⟩ := some_of_lt hyl
      obtain ⟨b0, off0, e0, e1⟩ := ((Mem.of_own HO.out).below hb).int hy
      obtain ⟨b1, off1, rfl, e2⟩ := (hv.below hb2).int hzz
      obtain ⟨b, off, rfl, e3, e4⟩ := (hm.below hb2).spot hs
      obtain ⟨b2, off2, e5, e6, e7⟩ := (hm.below hb2).spot hu
      obtain ⟨rfl, rfl⟩ : b = b2 ∧ off = off2 := by simpa using e5
      subst e0
      have hsg := all_at HG.out hs
      have hug := all_at HG.out hu
      have hbd := sq_bd hsg hug
      have HST := Lib.hid (cTo_succ hzz hy hs hu)
      have k1 := cell_regrown (w := wr) e1
      have k2 := cell_regrown (w := wr) e2
      have k3 := cell_regrown (w := wr) e3
      have k4 := cell_regrown (w := wr) e4
      have k6 := cell_regrown (w := wr) e6
      have k7 := cell_regrown (w := wr) e7
      have cc : ∀ t v : Sp, isSp t = true → isSp v = true → ∀ dd os, Calls Try.prog 55 #[.agg #[.int .i64 t.x, .int .i64 t.y], .agg #[.int .i64 v.x, .int .i64 v.y]] (grow (redrawn wr dd) os) fun e w'' => e = .returned (.int .i64 (sq t v)) ∧ ∃ p : Regrown, w'' = grow (redrawn wr p.d) p.os :=
        fun t v ht hv dd os => Calls.regrown_of ((stSquare_any t v ht hv _).mono (by rintro e w' ⟨rfl, o1, o2, rfl⟩; exact ⟨rfl, ((Below.refl _ _).alloc (Nat.le_refl _) _).alloc (by simp) _⟩))
      have C1 := Lib.hid cc
      have HCO := Lib.hid (sq_comm s u)
      have hbd2 := sq_bd hug hsg
      have w1e : IntKind.i64.wrap (x + sq s u) = x + sq s u := IntWalk.i64_in _ (by omega)
      have w2e : IntKind.i64.wrap (x + sq u s) = x + sq u s := IntWalk.i64_in _ (by omega)
      clear hy hzz hs hu e5 cc
      go_wp2
      refine wp_region_quiet_below (by kernel_rfl) (by kernel_rfl) ?_
      repeat (quiet_step (exact C1.out _ _ (by assumption) (by assumption) _ _))
      refine wpQuiet_nil ?_
      intro _ hw'
      obtain ⟨⟨dq, osq⟩, hw''⟩ := hw'
      subst hw''
      have hb5 := below_regrown wr dq osq
      go_wp2
      go_roundw
      case rel => exact ⟨k + 1, x + sq s u, by omega, by go_num, by first | rfl | (rw [HCO.out]), by omega, by omega, Below.next hb5 hb hb.size, Lib.hid (by rw [HST.out, H.out])⟩
      case measure => simp [intOf]; omega
    · go_wp2
      go_ret2
      have e1 : k = (opens a n).length := by omega
      subst e1
      exact ⟨ret_pair (by rw [HV.out.1, H.out]) HV.out.2.symm, hb2⟩
set_option maxRecDepth 100000 in
set_option maxHeartbeats 3200000 in
theorem impl_CoverSum_any (A : Option Addr) (c : Nat) (L : List Sp) (B : Option Addr) (d : Nat) (a : List Int) (C : Option Addr) (f : Nat) (n : List Int) (D : Option Addr) (g : Nat) (mv : List Int) (w : World) (hm : Mem w A (spots L)) (ha : Mem w B (ints a)) (hn : Mem w C (ints n)) (hv : Mem w D (ints mv)) (hl : L.length ≤ 1048576) (hl2 : a.length ≤ 1048576) (hl3 : n.length ≤ 1048576) (hl4 : mv.length ≤ 1048576) (hlc : L.length ≤ c) (hvc : mv.length ≤ g) : Calls Try.prog 21 #[.slice A L.length c, .slice B a.length d, .slice C n.length f, .slice D mv.length g] w fun e w' => e = .returned (.tuple #[.int .i64 (csV L a n mv), .bool (csOk L a n mv)]) ∧ Below w.heap.size w w' := by
  cases h1 : abOk L a n
  all_goals have H1 := Lib.hid h1
  · clear h1
    go_enter Try.func21, Try.ntmps21
    go_wp2_with (go_at_call 40; refine (IsAbsence_any _ _ L _ _ a _ _ n _ (hm.below (by (repeat (first | exact Below.refl _ _ | assumption | (refine Below.alloc ?_ (by first | omega | (simp; done) | (simp; omega)) _) | (refine Below.setCell ?_ (by first | omega | (simp; done) | (simp; omega)) _) | (refine Below.drew ?_) | (refine Below.drewN ?_ _) | (refine Below.next (by assumption) ?_ (by first | omega | (simp; done) | (simp; omega))))))) (ha.below (by (repeat (first | exact Below.refl _ _ | assumption | (refine Below.alloc ?_ (by first | omega | (simp; done) | (simp; omega)) _) | (refine Below.setCell ?_ (by first | omega | (simp; done) | (simp; omega)) _) | (refine Below.drew ?_) | (refine Below.drewN ?_ _) | (refine Below.next (by assumption) ?_ (by first | omega | (simp; done) | (simp; omega))))))) (hn.below (by (repeat (first | exact Below.refl _ _ | assumption | (refine Below.alloc ?_ (by first | omega | (simp; done) | (simp; omega)) _) | (refine Below.setCell ?_ (by first | omega | (simp; done) | (simp; omega)) _) | (refine Below.drew ?_) | (refine Below.drewN ?_ _) | (refine Below.next (by assumption) ?_ (by first | omega | (simp; done) | (simp; omega))))))) hl hl2 hl3 hlc).mono ?_; rintro e w' ⟨he, hq⟩; rw [H1.out] at he; subst he; obtain ⟨hz, hc, hf⟩ := bel hq)
    go_ret2
    exact ⟨ret_pair (by simp [csV, csOk, H1.out]) (by simp [csOk, H1.out]), by (repeat (first | exact Below.refl _ _ | assumption | (refine Below.alloc ?_ (by first | omega | (simp; done) | (simp; omega)) _) | (refine Below.setCell ?_ (by first | omega | (simp; done) | (simp; omega)) _) | (refine Below.drew ?_) | (refine Below.drewN ?_ _) | (refine Below.next (by assumption) ?_ (by first | omega | (simp; done) | (simp; omega)))))⟩
  cases h2 : covOk L.length a n mv
  all_goals have H2 := Lib.hid h2
  · clear h1 h2
    go_enter Try.func21, Try.ntmps21
    go_wp2_with (first | (go_at_call 40; refine (IsAbsence_any _ _ L _ _ a _ _ n _ (hm.below (by (repeat (first | exact Below.refl _ _ | assumption | (refine Below.alloc ?_ (by first | omega | (simp; done) | (simp; omega)) _) | (refine Below.setCell ?_ (by first | omega | (simp; done) | (simp; omega)) _) | (refine Below.drew ?_) | (refine Below.drewN ?_ _) | (refine Below.next (by assumption) ?_ (by first | omega | (simp; done) | (simp; omega))))))) (ha.below (by (repeat (first | exact Below.refl _ _ | assumption | (refine Below.alloc ?_ (by first | omega | (simp; done) | (simp; omega)) _) | (refine Below.setCell ?_ (by first | omega | (simp; done) | (simp; omega)) _) | (refine Below.drew ?_) | (refine Below.drewN ?_ _) | (refine Below.next (by assumption) ?_ (by first | omega | (simp; done) | (simp; omega))))))) (hn.below (by (repeat (first | exact Below.refl _ _ | assumption | (refine Below.alloc ?_ (by first | omega | (simp; done) | (simp; omega)) _) | (refine Below.setCell ?_ (by first | omega | (simp; done) | (simp; omega)) _) | (refine Below.drew ?_) | (refine Below.drewN ?_ _) | (refine Below.next (by assumption) ?_ (by first | omega | (simp; done) | (simp; omega))))))) hl hl2 hl3 hlc).mono ?_; rintro e w' ⟨he, hq⟩; rw [H1.out] at he; subst he; obtain ⟨hz, hc, hf⟩ := bel hq) | (go_at_call 50; refine (isCover_any L.length _ _ a _ _ n _ _ mv _ (ha.below (by (repeat (first | exact Below.refl _ _ | assumption | (refine Below.alloc ?_ (by first | omega | (simp; done) | (simp; omega)) _) | (refine Below.setCell ?_ (by first | omega | (simp; done) | (simp; omega)) _) | (refine Below.drew ?_) | (refine Below.drewN ?_ _) | (refine Below.next (by assumption) ?_ (by first | omega | (simp; done) | (simp; omega))))))) (hn.below (by (repeat (first | exact Below.refl _ _ | assumption | (refine Below.alloc ?_ (by first | omega | (simp; done) | (simp; omega)) _) | (refine Below.setCell ?_ (by first | omega | (simp; done) | (simp; omega)) _) | (refine Below.drew ?_) | (refine Below.drewN ?_ _) | (refine Below.next (by assumption) ?_ (by first | omega | (simp; done) | (simp; omega))))))) (hv.below (by (repeat (first | exact Below.refl _ _ | assumption | (refine Below.alloc ?_ (by first | omega | (simp; done) | (simp; omega)) _) | (refine Below.setCell ?_ (by first | omega | (simp; done) | (simp; omega)) _) | (refine Below.drew ?_) | (refine Below.drewN ?_ _) | (refine Below.next (by assumption) ?_ (by first | omega | (simp; done) | (simp; omega))))))) hl hl2 hl3 hl4 hvc).mono ?_; rintro e w' ⟨he, hq2⟩; rw [H2.out] at he; subst he; obtain ⟨hz2, hc2, hf2⟩ := bel hq2))
    go_ret2
    exact ⟨ret_pair (by simp [csV, csOk, H2.out]) (by simp [csOk, H2.out]), by (repeat (first | exact Below.refl _ _ | assumption | (refine Below.alloc ?_ (by first | omega | (simp; done) | (simp; omega)) _) | (refine Below.setCell ?_ (by first | omega | (simp; done) | (simp; omega)) _) | (refine Below.drew ?_) | (refine Below.drewN ?_ _) | (refine Below.next (by assumption) ?_ (by first | omega | (simp; done) | (simp; omega)))))⟩
  have HV : Hid (csV L a n mv = cTo L mv (opens a n) (opens a n).length ∧ csOk L a n mv = true) := Lib.hid (by simp [csV, csOk, h1, h2])
  have hlen := ab_lens h1
  have HG := Lib.hid (ch_all (abOk_iff.1 h1).1)
  have HLE := Lib.hid (covOk_iff.1 h2).2
  have hol := opens_len a n
  clear h1 h2
  go_enter Try.func21, Try.ntmps21
  go_wp2_with (first | (go_at_call 40; refine (IsAbsence_any _ _ L _ _ a _ _ n _ (hm.below (by (repeat (first | exact Below.refl _ _ | assumption | (refine Below.alloc ?_ (by first | omega | (simp; done) | (simp; omega)) _) | (refine Below.setCell ?_ (by first | omega | (simp; done) | (simp; omega)) _) | (refine Below.drew ?_) | (refine Below.drewN ?_ _) | (refine Below.next (by assumption) ?_ (by first | omega | (simp; done) | (simp; omega))))))) (ha.below (by (repeat (first | exact Below.refl _ _ | assumption | (refine Below.alloc ?_ (by first | omega | (simp; done) | (simp; omega)) _) | (refine Below.setCell ?_ (by first | omega | (simp; done) | (simp; omega)) _) | (refine Below.drew ?_) | (refine Below.drewN ?_ _) | (refine Below.next (by assumption) ?_ (by first | omega | (simp; done) | (simp; omega))))))) (hn.below (by (repeat (first | exact Below.refl _ _ | assumption | (refine Below.alloc ?_ (by first | omega | (simp; done) | (simp; omega)) _) | (refine Below.setCell ?_ (by first | omega | (simp; done) | (simp; omega)) _) | (refine Below.drew ?_) | (refine Below.drewN ?_ _) | (refine Below.next (by assumption) ?_ (by first | omega | (simp; done) | (simp; omega))))))) hl hl2 hl3 hlc).mono ?_; rintro e w' ⟨he, hq⟩; rw [H1.out] at he; subst he; obtain ⟨hz, hc, hf⟩ := bel hq) | (go_at_call 50; refine (isCover_any L.length _ _ a _ _ n _ _ mv _ (ha.below (by (repeat (first | exact Below.refl _ _ | assumption | (refine Below.alloc ?_ (by first | omega | (simp; done) | (simp; omega)) _) | (refine Below.setCell ?_ (by first | omega | (simp; done) | (simp; omega)) _) | (refine Below.drew ?_) | (refine Below.drewN ?_ _) | (refine Below.next (by assumption) ?_ (by first | omega | (simp; done) | (simp; omega))))))) (hn.below (by (repeat (first | exact Below.refl _ _ | assumption | (refine Below.alloc ?_ (by first | omega | (simp; done) | (simp; omega)) _) | (refine Below.setCell ?_ (by first | omega | (simp; done) | (simp; omega)) _) | (refine Below.drew ?_) | (refine Below.drewN ?_ _) | (refine Below.next (by assumption) ?_ (by first | omega | (simp; done) | (simp; omega))))))) (hv.below (by (repeat (first | exact Below.refl _ _ | assumption | (refine Below.alloc ?_ (by first | omega | (simp; done) | (simp; omega)) _) | (refine Below.setCell ?_ (by first | omega | (simp; done) | (simp; omega)) _) | (refine Below.drew ?_) | (refine Below.drewN ?_ _) | (refine Below.next (by assumption) ?_ (by first | omega | (simp; done) | (simp; omega))))))) hl hl2 hl3 hl4 hvc).mono ?_; rintro e w' ⟨he, hq2⟩; rw [H2.out] at he; subst he; obtain ⟨hz2, hc2, hf2⟩ := bel hq2))
  refine (openSpots_any _ _ a _ _ n _ (ha.below (by (repeat (first | exact Below.refl _ _ | assumption | (refine Below.alloc ?_ (by first | omega | (simp; done) | (simp; omega)) _) | (refine Below.setCell ?_ (by first | omega | (simp; done) | (simp; omega)) _) | (refine Below.drew ?_) | (refine Below.drewN ?_ _) | (refine Below.next (by assumption) ?_ (by first | omega | (simp; done) | (simp; omega))))))) (hn.below (by (repeat (first | exact Below.refl _ _ | assumption | (refine Below.alloc ?_ (by first | omega | (simp; done) | (simp; omega)) _) | (refine Below.setCell ?_ (by first | omega | (simp; done) | (simp; omega)) _) | (refine Below.drew ?_) | (refine Below.drewN ?_ _) | (refine Below.next (by assumption) ?_ (by first | omega | (simp; done) | (simp; omega))))))) hl2 hl3).mono ?_
  rintro e w1 ⟨A1, c1, rfl, ho, hq1⟩
  have hb1 : Below w.heap.size w w1 := by (repeat (first | exact Below.refl _ _ | assumption | (refine Below.alloc ?_ (by first | omega | (simp; done) | (simp; omega)) _) | (refine Below.setCell ?_ (by first | omega | (simp; done) | (simp; omega)) _) | (refine Below.drew ?_) | (refine Below.drewN ?_ _) | (refine Below.next (by assumption) ?_ (by first | omega | (simp; done) | (simp; omega)))))
  have HO := Lib.hid ho
  clear hq hz hc hf hq2 hz2 hc2 hf2 hq1 ho
  go_wp2_with fail
  go_loopw [10, 11, 12, 31] (fun sum _ _ i wr => ∃ (k : Nat) (x : Int), k ≤ (opens a n).length ∧ i = .int .i64 k ∧ sum = .int .i64 x ∧ 0 ≤ x ∧ x ≤ 2089984 * k ∧ Below w1.heap.size w1 wr ∧ Hid (cTo L mv (opens a n) k = x)) (fun _ _ _ i _ => (opens a n).length - (intOf i).toNat)
  case atStart => exact ⟨0, 0, by omega, rfl, rfl, by omega, by omega, Below.refl _ _, Lib.hid rfl⟩
  case round =>
    obtain ⟨k, x, hk, rfl, rfl, hx0, hx1, hb, H⟩ := hrel
    have hb2 := Below.next hb hb1 hb1.size
    by_cases hlt : k < (opens a n).length
    · obtain ⟨y, hy⟩ := some_of_lt hlt
      obtain ⟨y, rfl, hyl⟩ := op_nat H1.out hy
      obtain ⟨z, hzz⟩ := some_of_lt (L := mv) (k := k) (by have := HLE.out; omega)
      have hkm : k < mv.length := by have := HLE.out; omega
      obtain ⟨z, rfl, hzl⟩ := mv_nat H2.out hzz
      obtain ⟨s, hs⟩ := some_of_lt hzl
      obtain ⟨u, hu⟩ := some_of_lt hyl
      obtain ⟨b0, off0, e0, e1⟩ := ((Mem.of_own HO.out).below hb).int hy
      obtain ⟨b1, off1, rfl, e2⟩ := (hv.below hb2).int hzz
      obtain ⟨b, off, rfl, e3, e4⟩ := (hm.below hb2).spot hs
      obtain ⟨b2, off2, e5, e6, e7⟩ := (hm.below hb2).spot hu
      obtain ⟨rfl, rfl⟩ : b = b2 ∧ off = off2 := by simpa using e5
      subst e0
      have hsg := all_at HG.out hs
      have hug := all_at HG.out hu
      have hbd := sq_bd hsg hug
      have HST := Lib.hid (cTo_succ hzz hy hs hu)
      have k1 := cell_regrown (w := wr) e1
      have k2 := cell_regrown (w := wr) e2
      have k3 := cell_regrown (w := wr) e3
      have k4 := cell_regrown (w := wr) e4
      have k6 := cell_regrown (w := wr) e6
      have k7 := cell_regrown (w := wr) e7
      have cc : ∀ t v : Sp, isSp t = true → isSp v = true → ∀ dd os, Calls Try.prog 52 #[.agg #[.int .i64 t.x, .int .i64 t.y], .agg #[.int .i64 v.x, .int .i64 v.y]] (grow (redrawn wr dd) os) fun e w'' => e = .returned (.int .i64 (sq t v)) ∧ ∃ p : Regrown, w'' = grow (redrawn wr p.d) p.os :=
        fun t v ht hv dd os => Calls.regrown_of ((squareOf_any t v ht hv _).mono (by rintro e w' ⟨rfl, o1, o2, rfl⟩; exact ⟨rfl, ((Below.refl _ _).alloc (Nat.le_refl _) _).alloc (by simp) _⟩))
      have C1 := Lib.hid cc
      have HCO := Lib.hid (sq_comm s u)
      have hbd2 := sq_bd hug hsg
      have w1e : IntKind.i64.wrap (x + sq s u) = x + sq s u := IntWalk.i64_in _ (by omega)
      have w2e : IntKind.i64.wrap (x + sq u s) = x + sq u s := IntWalk.i64_in _ (by omega)
      clear hy hzz hs hu e5 cc
      go_wp2
      refine wp_region_quiet_below (by kernel_rfl) (by kernel_rfl) ?_
      repeat (quiet_step (exact C1.out _ _ (by assumption) (by assumption) _ _))
      refine wpQuiet_nil ?_
      intro _ hw'
      obtain ⟨⟨dq, osq⟩, hw''⟩ := hw'
      subst hw''
      have hb5 := below_regrown wr dq osq
      go_wp2
      go_roundw
      case rel => exact ⟨k + 1, x + sq s u, by omega, by go_num, by first | rfl | (rw [HCO.out]), by omega, by omega, Below.next hb5 hb hb.size, Lib.hid (by rw [HST.out, H.out])⟩
      case measure => simp [intOf]; omega
    · go_wp2
      go_ret2
      have e1 : k = (opens a n).length := by omega
      subst e1
      exact ⟨ret_pair (by rw [HV.out.1, H.out]) HV.out.2.symm, hb2⟩
end Go.Proofs.Ythppancpecjegaa
