/-
  Windows: hours of a place, the longest window, the first room.
-/
import Derived.Test.YtfjoggkielpipaaWinf
import Derived.Test.YtfjoggkielpipaaPlain2
import Derived.Deep.RegionHeld3
namespace Go.Proofs.Ytfjoggkielpipaa
open Go.RowKit Go.Sort

theorem wnOk_iff {L : List Wn} : wnOk L = true ↔ wnTo L L.length = true ∧ L.length ≤ 20 := by simp [wnOk]
def len1 (s : Wn) : Int := s.t - s.f
def hsTo (L : List Wn) (p : Int) : Nat → Int
  | 0 => 0
  | k + 1 => if (L.getD k ⟨0, 0, 0⟩).p = p then hsTo L p k + len1 (L.getD k ⟨0, 0, 0⟩) else hsTo L p k
theorem hsTo_succ {L : List Wn} {p : Int} {k : Nat} {s : Wn} (h : L[k]? = some s) : hsTo L p (k + 1) = if s.p = p then hsTo L p k + (s.t - s.f) else hsTo L p k := by simp [hsTo, h, len1]
theorem len1_bd {s : Wn} (h : isWn s = true) : 1 ≤ s.t - s.f ∧ s.t - s.f ≤ 168 := by have := isWn_iff.1 h; omega
def hsV (L : List Wn) (p : Int) : Int := if wnOk L && inR p 1 9 then hsTo L p L.length else 0
def lwTo (L : List Wn) : Nat → Nat
  | 0 => 0
  | k + 1 => if len1 (L.getD (lwTo L k) ⟨0, 0, 0⟩) < len1 (L.getD k ⟨0, 0, 0⟩) then k else lwTo L k
theorem lwTo_succ {L : List Wn} {k m : Nat} {s r : Wn} (hm : lwTo L k = m) (h : L[k]? = some s) (h' : L[m]? = some r) : lwTo L (k + 1) = if r.t - r.f < s.t - s.f then k else m := by simp [lwTo, hm, h, h', len1]
def lwOk (L : List Wn) : Bool := wnOk L && decide (0 < L.length)
def lwV (L : List Wn) : Int := if lwOk L then (lwTo L L.length : Int) else 0
/-- The first room: hour and place (none: place 0). -/
def frStep (hours fm : Int) (st : Int × Int) (s : Wn) : Int × Int := if max s.f fm + hours ≤ s.t ∧ max s.f fm < st.1 then (max s.f fm, s.p) else st
def frTo (L : List Wn) (hours fm : Int) : Nat → Int × Int
  | 0 => (168, 0)
  | k + 1 => frStep hours fm (frTo L hours fm k) (L.getD k ⟨0, 0, 0⟩)
theorem frTo_succ {L : List Wn} {hours fm h p : Int} {k : Nat} {s : Wn} (hs : L[k]? = some s) (e : frTo L hours fm k = (h, p)) : frTo L hours fm (k + 1) = if max s.f fm + hours ≤ s.t ∧ max s.f fm < h then (max s.f fm, s.p) else (h, p) := by
  simp only [frTo, e, frStep, List.getD_eq_getElem?_getD, hs, Option.getD_some]
def frGood (L : List Wn) (hours fm : Int) : Bool := (wnOk L && inR hours 1 168) && inR fm 0 167
def frOk (L : List Wn) (hours fm : Int) : Bool := frGood L hours fm && !decide ((frTo L hours fm L.length).2 = 0)
def fr1 (L : List Wn) (hours fm : Int) : Int := if frOk L hours fm then (frTo L hours fm L.length).1 else 0
def fr2 (L : List Wn) (hours fm : Int) : Int := if frOk L hours fm then (frTo L hours fm L.length).2 else 0

set_option maxHeartbeats 1600000 in
theorem spec_HoursOf_any (A : Option Addr) (c : Nat) (L : List Wn) (p : Int) (w : World) (hm : Mem w A (windows L)) (hl : L.length ≤ 1048576) : Calls Try.prog 48 #[.slice A L.length c, .int .i64 p] w fun e w' => e = .returned (.tuple #[.int .i64 (hsV L p), .bool (wnOk L && inR p 1 9)]) ∧ Below w.heap.size w w' := by
  cases h1 : wnOk L
  · go_enter Try.func48, Try.ntmps48
    go_wp2_with (first | (go_at_call 76; refine (wnGood_any _ _ L _ (hm.below (by (repeat (first | exact Below.refl _ _ | assumption | (refine Below.alloc ?_ (by first | omega | (simp; done) | (simp; omega)) _) | (refine Below.setCell ?_ (by first | omega | (simp; done) | (simp; omega)) _) | (refine Below.drew ?_) | (refine Below.drewN ?_ _) | (refine Below.next (by assumption) ?_ (by first | omega | (simp; done) | (simp; omega))))))) hl).mono ?_; rintro e w' ⟨rfl, hq⟩; obtain ⟨hz, hc, hf⟩ := bel hq; (try simp at hz); (try have gz1 : w.heap.size < w'.heap.size := by omega); (try have gz2 : w.heap.size + 1 < w'.heap.size := by omega); (try have gz3 : wr.heap.size < w'.heap.size := by omega)) | (go_at_call 80; refine (wnPlace_any _ _).mono ?_; rintro e w' ⟨rfl, rfl⟩))
    go_ret2
    exact ⟨ret_pair (by simp [hsV, h1]) (by simp), by (repeat (first | exact Below.refl _ _ | assumption | (refine Below.alloc ?_ (by first | omega | (simp; done) | (simp; omega)) _) | (refine Below.setCell ?_ (by first | omega | (simp; done) | (simp; omega)) _) | (refine Below.drew ?_) | (refine Below.drewN ?_ _) | (refine Below.next (by assumption) ?_ (by first | omega | (simp; done) | (simp; omega)))))⟩
  cases h2 : inR p 1 9
  · go_enter Try.func48, Try.ntmps48
    go_wp2_with (first | (go_at_call 76; refine (wnGood_any _ _ L _ (hm.below (by (repeat (first | exact Below.refl _ _ | assumption | (refine Below.alloc ?_ (by first | omega | (simp; done) | (simp; omega)) _) | (refine Below.setCell ?_ (by first | omega | (simp; done) | (simp; omega)) _) | (refine Below.drew ?_) | (refine Below.drewN ?_ _) | (refine Below.next (by assumption) ?_ (by first | omega | (simp; done) | (simp; omega))))))) hl).mono ?_; rintro e w' ⟨rfl, hq⟩; obtain ⟨hz, hc, hf⟩ := bel hq; (try simp at hz); (try have gz1 : w.heap.size < w'.heap.size := by omega); (try have gz2 : w.heap.size + 1 < w'.heap.size := by omega); (try have gz3 : wr.heap.size < w'.heap.size := by omega)) | (go_at_call 80; refine (wnPlace_any _ _).mono ?_; rintro e w' ⟨rfl, rfl⟩))
    go_ret2
    exact ⟨ret_pair (by simp [hsV, h2]) (by simp), by (repeat (first | exact Below.refl _ _ | assumption | (refine Below.alloc ?_ (by first | omega | (simp; done) | (simp; omega)) _) | (refine Below.setCell ?_ (by first | omega | (simp; done) | (simp; omega)) _) | (refine Below.drew ?_) | (refine Below.drewN ?_ _) | (refine Below.next (by assumption) ?_ (by first | omega | (simp; done) | (simp; omega)))))⟩
  have HV : Hid (hsV L p = hsTo L p L.length) := Lib.hid (by simp [hsV, h1, h2])
  obtain ⟨g1, g2⟩ := wnOk_iff.1 h1
  have HG := Lib.hid g1
  go_enter Try.func48, Try.ntmps48
  go_wp2_with (first | (go_at_call 76; refine (wnGood_any _ _ L _ (hm.below (by (repeat (first | exact Below.refl _ _ | assumption | (refine Below.alloc ?_ (by first | omega | (simp; done) | (simp; omega)) _) | (refine Below.setCell ?_ (by first | omega | (simp; done) | (simp; omega)) _) | (refine Below.drew ?_) | (refine Below.drewN ?_ _) | (refine Below.next (by assumption) ?_ (by first | omega | (simp; done) | (simp; omega))))))) hl).mono ?_; rintro e w' ⟨rfl, hq⟩; obtain ⟨hz, hc, hf⟩ := bel hq; (try simp at hz); (try have gz1 : w.heap.size < w'.heap.size := by omega); (try have gz2 : w.heap.size + 1 < w'.heap.size := by omega); (try have gz3 : wr.heap.size < w'.heap.size := by omega)) | (go_at_call 80; refine (wnPlace_any _ _).mono ?_; rintro e w' ⟨rfl, rfl⟩))
  have hb2 : Below w.heap.size w w' := by (repeat (first | exact Below.refl _ _ | assumption | (refine Below.alloc ?_ (by first | omega | (simp; done) | (simp; omega)) _) | (refine Below.setCell ?_ (by first | omega | (simp; done) | (simp; omega)) _) | (refine Below.drew ?_) | (refine Below.drewN ?_ _) | (refine Below.next (by assumption) ?_ (by first | omega | (simp; done) | (simp; omega)))))
  clear hq hz hc hf h1 h2 g1
  go_loopw [6, 8, 19] (fun sum _ i wr => ∃ (k : Nat) (x : Int), k ≤ L.length ∧ i = .int .i64 k ∧ sum = .int .i64 x ∧ 0 ≤ x ∧ x ≤ 168 * k ∧ Below w.heap.size w wr ∧ Hid (hsTo L p k = x)) (fun _ _ i _ => L.length - (intOf i).toNat)
  case atStart => exact ⟨0, 0, by omega, rfl, rfl, by omega, by omega, hb2, Lib.hid rfl⟩
  case round =>
    obtain ⟨k, x, hk, rfl, rfl, hx0, hx1, hb, H⟩ := hrel
    have hsz := hb.size
    by_cases hlt : k < L.length
    · obtain ⟨s, hs⟩ := some_of_lt hlt
      obtain ⟨b, off, rfl, e1, e2, e3⟩ := (hm.below hb).window hs
      have hbl : b < wr.heap.size := World.block_lt_of_cell? wr _ e1
      have hbd := len1_bd (wnTo_at HG.out hs)
      have hwn := isWn_iff.1 (wnTo_at HG.out hs)
      have HST := Lib.hid (hsTo_succ (p := p) hs)
      clear hs
      by_cases hp : s.p = p
      · have hp' : (s.p == p) = true := by simpa using hp
        have HN : Hid (hsTo L p (k + 1) = x + (s.t - s.f)) := Lib.hid (by rw [HST.out, if_pos hp, H.out])
        clear hp
        go_wp2
        go_roundw
        case rel => exact ⟨k + 1, x + (s.t - s.f), by omega, by go_num, by go_num, by omega, by omega, by (repeat (first | exact Below.refl _ _ | assumption | (refine Below.alloc ?_ (by first | omega | (simp; done) | (simp; omega)) _) | (refine Below.setCell ?_ (by first | omega | (simp; done) | (simp; omega)) _) | (refine Below.drew ?_) | (refine Below.drewN ?_ _) | (refine Below.next (by assumption) ?_ (by first | omega | (simp; done) | (simp; omega))))), HN⟩
        case measure => simp [intOf]; omega
      · have hp' : (s.p == p) = false := by simpa using hp
        have HN : Hid (hsTo L p (k + 1) = x) := Lib.hid (by rw [HST.out, if_neg hp, H.out])
        clear hp
        go_wp2
        go_roundw
        case rel => exact ⟨k + 1, x, by omega, by go_num, rfl, by omega, by omega, by (repeat (first | exact Below.refl _ _ | assumption | (refine Below.alloc ?_ (by first | omega | (simp; done) | (simp; omega)) _) | (refine Below.setCell ?_ (by first | omega | (simp; done) | (simp; omega)) _) | (refine Below.drew ?_) | (refine Below.drewN ?_ _) | (refine Below.next (by assumption) ?_ (by first | omega | (simp; done) | (simp; omega))))), HN⟩
        case measure => simp [intOf]; omega
    · go_wp2
      go_ret2
      have e1 : k = L.length := by omega
      subst e1
      exact ⟨ret_pair (by rw [HV.out, H.out]) rfl, hb⟩
set_option maxHeartbeats 1600000 in
theorem spec_LongestWindow_any (A : Option Addr) (c : Nat) (L : List Wn) (w : World) (hm : Mem w A (windows L)) (hl : L.length ≤ 1048576) : Calls Try.prog 46 #[.slice A L.length c] w fun e w' => e = .returned (.tuple #[.int .i64 (lwV L), .bool (lwOk L)]) ∧ Below w.heap.size w w' := by
  cases h1 : wnOk L
  · go_enter Try.func46, Try.ntmps46
    go_wp2_with (go_at_call 76; refine (wnGood_any _ _ L _ (hm.below (by (repeat (first | exact Below.refl _ _ | assumption | (refine Below.alloc ?_ (by first | omega | (simp; done) | (simp; omega)) _) | (refine Below.setCell ?_ (by first | omega | (simp; done) | (simp; omega)) _) | (refine Below.drew ?_) | (refine Below.drewN ?_ _) | (refine Below.next (by assumption) ?_ (by first | omega | (simp; done) | (simp; omega))))))) hl).mono ?_; rintro e w' ⟨rfl, hq⟩; obtain ⟨hz, hc, hf⟩ := bel hq; (try simp at hz); (try have gz1 : w.heap.size < w'.heap.size := by omega); (try have gz2 : w.heap.size + 1 < w'.heap.size := by omega); (try have gz3 : wr.heap.size < w'.heap.size := by omega))
    go_ret2
    exact ⟨ret_pair (by simp [lwV, lwOk, h1]) (by simp [lwOk, h1]), by (repeat (first | exact Below.refl _ _ | assumption | (refine Below.alloc ?_ (by first | omega | (simp; done) | (simp; omega)) _) | (refine Below.setCell ?_ (by first | omega | (simp; done) | (simp; omega)) _) | (refine Below.drew ?_) | (refine Below.drewN ?_ _) | (refine Below.next (by assumption) ?_ (by first | omega | (simp; done) | (simp; omega)))))⟩
  rcases Nat.eq_zero_or_pos L.length with h2 | h2
  · have h3 : L = [] := List.eq_nil_of_length_eq_zero h2
    subst h3
    have hV : lwV [] = 0 ∧ lwOk [] = false := by decide
    go_enter Try.func46, Try.ntmps46
    go_wp2_with ((go_at_call 76; refine (wnGood_any _ _ [] _ (hm.below (by (repeat (first | exact Below.refl _ _ | assumption | (refine Below.alloc ?_ (by first | omega | (simp; done) | (simp; omega)) _) | (refine Below.setCell ?_ (by first | omega | (simp; done) | (simp; omega)) _) | (refine Below.drew ?_) | (refine Below.drewN ?_ _) | (refine Below.next (by assumption) ?_ (by first | omega | (simp; done) | (simp; omega))))))) hl).mono ?_; rintro e w' ⟨rfl, hq⟩; obtain ⟨hz, hc, hf⟩ := bel hq; (try simp at hz); (try have gz1 : w.heap.size < w'.heap.size := by omega); (try have gz2 : w.heap.size + 1 < w'.heap.size := by omega); (try have gz3 : wr.heap.size < w'.heap.size := by omega)))
    go_ret2
    exact ⟨ret_pair hV.1.symm hV.2.symm, by (repeat (first | exact Below.refl _ _ | assumption | (refine Below.alloc ?_ (by first | omega | (simp; done) | (simp; omega)) _) | (refine Below.setCell ?_ (by first | omega | (simp; done) | (simp; omega)) _) | (refine Below.drew ?_) | (refine Below.drewN ?_ _) | (refine Below.next (by assumption) ?_ (by first | omega | (simp; done) | (simp; omega)))))⟩
  have e2 : ((L.length : Int) == 0) = false := beq_eq_false_iff_ne.2 (by omega)
  have HO : Hid (lwOk L = true) := Lib.hid (by simp [lwOk, h1, h2])
  have HV : Hid (lwV L = lwTo L L.length) := Lib.hid (by simp [lwV, HO.out])
  obtain ⟨g1, g2⟩ := wnOk_iff.1 h1
  have HG := Lib.hid g1
  go_enter Try.func46, Try.ntmps46
  go_wp2_with (go_at_call 76; refine (wnGood_any _ _ L _ (hm.below (by (repeat (first | exact Below.refl _ _ | assumption | (refine Below.alloc ?_ (by first | omega | (simp; done) | (simp; omega)) _) | (refine Below.setCell ?_ (by first | omega | (simp; done) | (simp; omega)) _) | (refine Below.drew ?_) | (refine Below.drewN ?_ _) | (refine Below.next (by assumption) ?_ (by first | omega | (simp; done) | (simp; omega))))))) hl).mono ?_; rintro e w' ⟨rfl, hq⟩; obtain ⟨hz, hc, hf⟩ := bel hq; (try simp at hz); (try have gz1 : w.heap.size < w'.heap.size := by omega); (try have gz2 : w.heap.size + 1 < w'.heap.size := by omega); (try have gz3 : wr.heap.size < w'.heap.size := by omega))
  have hb2 : Below w.heap.size w w' := by (repeat (first | exact Below.refl _ _ | assumption | (refine Below.alloc ?_ (by first | omega | (simp; done) | (simp; omega)) _) | (refine Below.setCell ?_ (by first | omega | (simp; done) | (simp; omega)) _) | (refine Below.drew ?_) | (refine Below.drewN ?_ _) | (refine Below.next (by assumption) ?_ (by first | omega | (simp; done) | (simp; omega)))))
  clear hq hz hc hf h1 g1 e2
  go_loopw [4, 5, 6, 17] (fun best _ _ i wr => ∃ k m : Nat, k ≤ L.length ∧ m < L.length ∧ i = .int .i64 k ∧ best = .int .i64 m ∧ Below w.heap.size w wr ∧ Hid (lwTo L k = m)) (fun _ _ _ i _ => L.length - (intOf i).toNat)
  case atStart => exact ⟨0, 0, by omega, h2, rfl, rfl, hb2, Lib.hid rfl⟩
  case round =>
    obtain ⟨k, m, hk, hml, rfl, rfl, hb, H⟩ := hrel
    have hsz := hb.size
    by_cases hlt : k < L.length
    · obtain ⟨s, hs⟩ := some_of_lt hlt
      obtain ⟨r, hr⟩ := some_of_lt hml
      obtain ⟨b, off, rfl, e1, e2, e3⟩ := (hm.below hb).window hs
      obtain ⟨b2, off2, e0, f1, f2, f3⟩ := (hm.below hb).window hr
      obtain ⟨rfl, rfl⟩ : b = b2 ∧ off = off2 := by simpa using e0
      have hbl : b < wr.heap.size := World.block_lt_of_cell? wr _ e1
      have hws := isWn_iff.1 (wnTo_at HG.out hs)
      have hwr := isWn_iff.1 (wnTo_at HG.out hr)
      have HST := Lib.hid (lwTo_succ H.out hs hr)
      clear hs hr e0
      by_cases hcmp : r.t - r.f < s.t - s.f
      all_goals
        go_wp2
        go_quiet (fail)
        go_wp2
        go_roundw
        case rel => first | exact ⟨k + 1, k, by omega, hlt, by go_num, rfl, Below.drewN (by (repeat (first | exact Below.refl _ _ | assumption | (refine Below.alloc ?_ (by first | omega | (simp; done) | (simp; omega)) _) | (refine Below.setCell ?_ (by first | omega | (simp; done) | (simp; omega)) _) | (refine Below.drew ?_) | (refine Below.drewN ?_ _) | (refine Below.next (by assumption) ?_ (by first | omega | (simp; done) | (simp; omega)))))) _, Lib.hid (by rw [HST.out, if_pos (by omega)])⟩ | exact ⟨k + 1, m, by omega, hml, by go_num, rfl, Below.drewN (by (repeat (first | exact Below.refl _ _ | assumption | (refine Below.alloc ?_ (by first | omega | (simp; done) | (simp; omega)) _) | (refine Below.setCell ?_ (by first | omega | (simp; done) | (simp; omega)) _) | (refine Below.drew ?_) | (refine Below.drewN ?_ _) | (refine Below.next (by assumption) ?_ (by first | omega | (simp; done) | (simp; omega)))))) _, Lib.hid (by rw [HST.out, if_neg (by omega)])⟩
        case measure => simp [intOf]; omega
    · go_wp2
      go_ret2
      have e1 : k = L.length := by omega
      subst e1
      exact ⟨ret_pair (by rw [HV.out, H.out]) HO.out.symm, hb⟩

set_option maxHeartbeats 1600000 in
theorem impl_HoursOf_any (A : Option Addr) (c : Nat) (L : List Wn) (p : Int) (w : World) (hm : Mem w A (windows L)) (hl : L.length ≤ 1048576) : Calls Try.prog 49 #[.slice A L.length c, .int .i64 p] w fun e w' => e = .returned (.tuple #[.int .i64 (hsV L p), .bool (wnOk L && inR p 1 9)]) ∧ Below w.heap.size w w' := by
  cases h1 : wnOk L
  · go_enter Try.func49, Try.ntmps49
    go_wp2_with (first | (go_at_call 44; refine (AreWindows_any _ _ L _ (hm.below (by (repeat (first | exact Below.refl _ _ | assumption | (refine Below.alloc ?_ (by first | omega | (simp; done) | (simp; omega)) _) | (refine Below.setCell ?_ (by first | omega | (simp; done) | (simp; omega)) _) | (refine Below.drew ?_) | (refine Below.drewN ?_ _) | (refine Below.next (by assumption) ?_ (by first | omega | (simp; done) | (simp; omega))))))) hl).mono ?_; rintro e w' ⟨rfl, hq⟩; obtain ⟨hz, hc, hf⟩ := bel hq; (try simp at hz); (try have gz1 : w.heap.size < w'.heap.size := by omega); (try have gz2 : w.heap.size + 1 < w'.heap.size := by omega); (try have gz3 : wr.heap.size < w'.heap.size := by omega)) | (go_at_call 66; refine (within_any _ _ _ _).mono ?_; rintro e w' ⟨rfl, rfl⟩))
    go_ret2
    exact ⟨ret_pair (by simp [hsV, h1]) (by simp), by (repeat (first | exact Below.refl _ _ | assumption | (refine Below.alloc ?_ (by first | omega | (simp; done) | (simp; omega)) _) | (refine Below.setCell ?_ (by first | omega | (simp; done) | (simp; omega)) _) | (refine Below.drew ?_) | (refine Below.drewN ?_ _) | (refine Below.next (by assumption) ?_ (by first | omega | (simp; done) | (simp; omega)))))⟩
  cases h2 : inR p 1 9
  · go_enter Try.func49, Try.ntmps49
    go_wp2_with (first | (go_at_call 44; refine (AreWindows_any _ _ L _ (hm.below (by (repeat (first | exact Below.refl _ _ | assumption | (refine Below.alloc ?_ (by first | omega | (simp; done) | (simp; omega)) _) | (refine Below.setCell ?_ (by first | omega | (simp; done) | (simp; omega)) _) | (refine Below.drew ?_) | (refine Below.drewN ?_ _) | (refine Below.next (by assumption) ?_ (by first | omega | (simp; done) | (simp; omega))))))) hl).mono ?_; rintro e w' ⟨rfl, hq⟩; obtain ⟨hz, hc, hf⟩ := bel hq; (try simp at hz); (try have gz1 : w.heap.size < w'.heap.size := by omega); (try have gz2 : w.heap.size + 1 < w'.heap.size := by omega); (try have gz3 : wr.heap.size < w'.heap.size := by omega)) | (go_at_call 66; refine (within_any _ _ _ _).mono ?_; rintro e w' ⟨rfl, rfl⟩))
    go_ret2
    exact ⟨ret_pair (by simp [hsV, h2]) (by simp), by (repeat (first | exact Below.refl _ _ | assumption | (refine Below.alloc ?_ (by first | omega | (simp; done) | (simp; omega)) _) | (refine Below.setCell ?_ (by first | omega | (simp; done) | (simp; omega)) _) | (refine Below.drew ?_) | (refine Below.drewN ?_ _) | (refine Below.next (by assumption) ?_ (by first | omega | (simp; done) | (simp; omega)))))⟩
  have HV : Hid (hsV L p = hsTo L p L.length) := Lib.hid (by simp [hsV, h1, h2])
  obtain ⟨g1, g2⟩ := wnOk_iff.1 h1
  have HG := Lib.hid g1
  go_enter Try.func49, Try.ntmps49
  go_wp2_with (first | (go_at_call 44; refine (AreWindows_any _ _ L _ (hm.below (by (repeat (first | exact Below.refl _ _ | assumption | (refine Below.alloc ?_ (by first | omega | (simp; done) | (simp; omega)) _) | (refine Below.setCell ?_ (by first | omega | (simp; done) | (simp; omega)) _) | (refine Below.drew ?_) | (refine Below.drewN ?_ _) | (refine Below.next (by assumption) ?_ (by first | omega | (simp; done) | (simp; omega))))))) hl).mono ?_; rintro e w' ⟨rfl, hq⟩; obtain ⟨hz, hc, hf⟩ := bel hq; (try simp at hz); (try have gz1 : w.heap.size < w'.heap.size := by omega); (try have gz2 : w.heap.size + 1 < w'.heap.size := by omega); (try have gz3 : wr.heap.size < w'.heap.size := by omega)) | (go_at_call 66; refine (within_any _ _ _ _).mono ?_; rintro e w' ⟨rfl, rfl⟩))
  have hb2 : Below w.heap.size w w' := by (repeat (first | exact Below.refl _ _ | assumption | (refine Below.alloc ?_ (by first | omega | (simp; done) | (simp; omega)) _) | (refine Below.setCell ?_ (by first | omega | (simp; done) | (simp; omega)) _) | (refine Below.drew ?_) | (refine Below.drewN ?_ _) | (refine Below.next (by assumption) ?_ (by first | omega | (simp; done) | (simp; omega)))))
  clear hq hz hc hf h1 h2 g1
  go_loopw [6, 8, 19] (fun sum _ i wr => ∃ (k : Nat) (x : Int), k ≤ L.length ∧ i = .int .i64 k ∧ sum = .int .i64 x ∧ 0 ≤ x ∧ x ≤ 168 * k ∧ Below w.heap.size w wr ∧ Hid (hsTo L p k = x)) (fun _ _ i _ => L.length - (intOf i).toNat)
  case atStart => exact ⟨0, 0, by omega, rfl, rfl, by omega, by omega, hb2, Lib.hid rfl⟩
  case round =>
    obtain ⟨k, x, hk, rfl, rfl, hx0, hx1, hb, H⟩ := hrel
    have hsz := hb.size
    by_cases hlt : k < L.length
    · obtain ⟨s, hs⟩ := some_of_lt hlt
      obtain ⟨b, off, rfl, e1, e2, e3⟩ := (hm.below hb).window hs
      have hbl : b < wr.heap.size := World.block_lt_of_cell? wr _ e1
      have hbd := len1_bd (wnTo_at HG.out hs)
      have hwn := isWn_iff.1 (wnTo_at HG.out hs)
      have HST := Lib.hid (hsTo_succ (p := p) hs)
      clear hs
      by_cases hp : s.p = p
      · have hp' : (s.p == p) = true := by simpa using hp
        have HN : Hid (hsTo L p (k + 1) = x + (s.t - s.f)) := Lib.hid (by rw [HST.out, if_pos hp, H.out])
        clear hp
        go_wp2
        go_roundw
        case rel => exact ⟨k + 1, x + (s.t - s.f), by omega, by go_num, by go_num, by omega, by omega, by (repeat (first | exact Below.refl _ _ | assumption | (refine Below.alloc ?_ (by first | omega | (simp; done) | (simp; omega)) _) | (refine Below.setCell ?_ (by first | omega | (simp; done) | (simp; omega)) _) | (refine Below.drew ?_) | (refine Below.drewN ?_ _) | (refine Below.next (by assumption) ?_ (by first | omega | (simp; done) | (simp; omega))))), HN⟩
        case measure => simp [intOf]; omega
      · have hp' : (s.p == p) = false := by simpa using hp
        have HN : Hid (hsTo L p (k + 1) = x) := Lib.hid (by rw [HST.out, if_neg hp, H.out])
        clear hp
        go_wp2
        go_roundw
        case rel => exact ⟨k + 1, x, by omega, by go_num, rfl, by omega, by omega, by (repeat (first | exact Below.refl _ _ | assumption | (refine Below.alloc ?_ (by first | omega | (simp; done) | (simp; omega)) _) | (refine Below.setCell ?_ (by first | omega | (simp; done) | (simp; omega)) _) | (refine Below.drew ?_) | (refine Below.drewN ?_ _) | (refine Below.next (by assumption) ?_ (by first | omega | (simp; done) | (simp; omega))))), HN⟩
        case measure => simp [intOf]; omega
    · go_wp2
      go_ret2
      have e1 : k = L.length := by omega
      subst e1
      exact ⟨ret_pair (by rw [HV.out, H.out]) rfl, hb⟩
set_option maxHeartbeats 1600000 in
theorem impl_LongestWindow_any (A : Option Addr) (c : Nat) (L : List Wn) (w : World) (hm : Mem w A (windows L)) (hl : L.length ≤ 1048576) : Calls Try.prog 47 #[.slice A L.length c] w fun e w' => e = .returned (.tuple #[.int .i64 (lwV L), .bool (lwOk L)]) ∧ Below w.heap.size w w' := by
  cases h1 : wnOk L
  · go_enter Try.func47, Try.ntmps47
    go_wp2_with (go_at_call 44; refine (AreWindows_any _ _ L _ (hm.below (by (repeat (first | exact Below.refl _ _ | assumption | (refine Below.alloc ?_ (by first | omega | (simp; done) | (simp; omega)) _) | (refine Below.setCell ?_ (by first | omega | (simp; done) | (simp; omega)) _) | (refine Below.drew ?_) | (refine Below.drewN ?_ _) | (refine Below.next (by assumption) ?_ (by first | omega | (simp; done) | (simp; omega))))))) hl).mono ?_; rintro e w' ⟨rfl, hq⟩; obtain ⟨hz, hc, hf⟩ := bel hq; (try simp at hz); (try have gz1 : w.heap.size < w'.heap.size := by omega); (try have gz2 : w.heap.size + 1 < w'.heap.size := by omega); (try have gz3 : wr.heap.size < w'.heap.size := by omega))
    go_ret2
    exact ⟨ret_pair (by simp [lwV, lwOk, h1]) (by simp [lwOk, h1]), by (repeat (first | exact Below.refl _ _ | assumption | (refine Below.alloc ?_ (by first | omega | (simp; done) | (simp; omega)) _) | (refine Below.setCell ?_ (by first | omega | (simp; done) | (simp; omega)) _) | (refine Below.drew ?_) | (refine Below.drewN ?_ _) | (refine Below.next (by assumption) ?_ (by first | omega | (simp; done) | (simp; omega)))))⟩
  rcases Nat.eq_zero_or_pos L.length with h2 | h2
  · have h3 : L = [] := List.eq_nil_of_length_eq_zero h2
    subst h3
    have hV : lwV [] = 0 ∧ lwOk [] = false := by decide
    go_enter Try.func47, Try.ntmps47
    go_wp2_with ((go_at_call 44; refine (AreWindows_any _ _ [] _ (hm.below (by (repeat (first | exact Below.refl _ _ | assumption | (refine Below.alloc ?_ (by first | omega | (simp; done) | (simp; omega)) _) | (refine Below.setCell ?_ (by first | omega | (simp; done) | (simp; omega)) _) | (refine Below.drew ?_) | (refine Below.drewN ?_ _) | (refine Below.next (by assumption) ?_ (by first | omega | (simp; done) | (simp; omega))))))) hl).mono ?_; rintro e w' ⟨rfl, hq⟩; obtain ⟨hz, hc, hf⟩ := bel hq; (try simp at hz); (try have gz1 : w.heap.size < w'.heap.size := by omega); (try have gz2 : w.heap.size + 1 < w'.heap.size := by omega); (try have gz3 : wr.heap.size < w'.heap.size := by omega)))
    go_ret2
    exact ⟨ret_pair hV.1.symm hV.2.symm, by (repeat (first | exact Below.refl _ _ | assumption | (refine Below.alloc ?_ (by first | omega | (simp; done) | (simp; omega)) _) | (refine Below.setCell ?_ (by first | omega | (simp; done) | (simp; omega)) _) | (refine Below.drew ?_) | (refine Below.drewN ?_ _) | (refine Below.next (by assumption) ?_ (by first | omega | (simp; done) | (simp; omega)))))⟩
  have e2 : ((L.length : Int) == 0) = false := beq_eq_false_iff_ne.2 (by omega)
  have HO : Hid (lwOk L = true) := Lib.hid (by simp [lwOk, h1, h2])
  have HV : Hid (lwV L = lwTo L L.length) := Lib.hid (by simp [lwV, HO.out])
  obtain ⟨g1, g2⟩ := wnOk_iff.1 h1
  have HG := Lib.hid g1
  go_enter Try.func47, Try.ntmps47
  go_wp2_with (go_at_call 44; refine (AreWindows_any _ _ L _ (hm.below (by (repeat (first | exact Below.refl _ _ | assumption | (refine Below.alloc ?_ (by first | omega | (simp; done) | (simp; omega)) _) | (refine Below.setCell ?_ (by first | omega | (simp; done) | (simp; omega)) _) | (refine Below.drew ?_) | (refine Below.drewN ?_ _) | (refine Below.next (by assumption) ?_ (by first | omega | (simp; done) | (simp; omega))))))) hl).mono ?_; rintro e w' ⟨rfl, hq⟩; obtain ⟨hz, hc, hf⟩ := bel hq; (try simp at hz); (try have gz1 : w.heap.size < w'.heap.size := by omega); (try have gz2 : w.heap.size + 1 < w'.heap.size := by omega); (try have gz3 : wr.heap.size < w'.heap.size := by omega))
  have hb2 : Below w.heap.size w w' := by (repeat (first | exact Below.refl _ _ | assumption | (refine Below.alloc ?_ (by first | omega | (simp; done) | (simp; omega)) _) | (refine Below.setCell ?_ (by first | omega | (simp; done) | (simp; omega)) _) | (refine Below.drew ?_) | (refine Below.drewN ?_ _) | (refine Below.next (by assumption) ?_ (by first | omega | (simp; done) | (simp; omega)))))
  clear hq hz hc hf h1 g1 e2
  go_loopw [4, 5, 6, 17] (fun best _ _ i wr => ∃ k m : Nat, k ≤ L.length ∧ m < L.length ∧ i = .int .i64 k ∧ best = .int .i64 m ∧ Below w.heap.size w wr ∧ Hid (lwTo L k = m)) (fun _ _ _ i _ => L.length - (intOf i).toNat)
  case atStart => exact ⟨0, 0, by omega, h2, rfl, rfl, hb2, Lib.hid rfl⟩
  case round =>
    obtain ⟨k, m, hk, hml, rfl, rfl, hb, H⟩ := hrel
    have hsz := hb.size
    by_cases hlt : k < L.length
    · obtain ⟨s, hs⟩ := some_of_lt hlt
      obtain ⟨r, hr⟩ := some_of_lt hml
      obtain ⟨b, off, rfl, e1, e2, e3⟩ := (hm.below hb).window hs
      obtain ⟨b2, off2, e0, f1, f2, f3⟩ := (hm.below hb).window hr
      obtain ⟨rfl, rfl⟩ : b = b2 ∧ off = off2 := by simpa using e0
      have hbl : b < wr.heap.size := World.block_lt_of_cell? wr _ e1
      have hws := isWn_iff.1 (wnTo_at HG.out hs)
      have hwr := isWn_iff.1 (wnTo_at HG.out hr)
      have HST := Lib.hid (lwTo_succ H.out hs hr)
      clear hs hr e0
      by_cases hcmp : r.t - r.f < s.t - s.f
      all_goals
        go_wp2
        go_quiet (fail)
        go_wp2
        go_roundw
        case rel => first | exact ⟨k + 1, k, by omega, hlt, by go_num, rfl, Below.drewN (by (repeat (first | exact Below.refl _ _ | assumption | (refine Below.alloc ?_ (by first | omega | (simp; done) | (simp; omega)) _) | (refine Below.setCell ?_ (by first | omega | (simp; done) | (simp; omega)) _) | (refine Below.drew ?_) | (refine Below.drewN ?_ _) | (refine Below.next (by assumption) ?_ (by first | omega | (simp; done) | (simp; omega)))))) _, Lib.hid (by rw [HST.out, if_pos (by omega)])⟩ | exact ⟨k + 1, m, by omega, hml, by go_num, rfl, Below.drewN (by (repeat (first | exact Below.refl _ _ | assumption | (refine Below.alloc ?_ (by first | omega | (simp; done) | (simp; omega)) _) | (refine Below.setCell ?_ (by first | omega | (simp; done) | (simp; omega)) _) | (refine Below.drew ?_) | (refine Below.drewN ?_ _) | (refine Below.next (by assumption) ?_ (by first | omega | (simp; done) | (simp; omega)))))) _, Lib.hid (by rw [HST.out, if_neg (by omega)])⟩
        case measure => simp [intOf]; omega
    · go_wp2
      go_ret2
      have e1 : k = L.length := by omega
      subst e1
      exact ⟨ret_pair (by rw [HV.out, H.out]) HO.out.symm, hb⟩

end Go.Proofs.Ytfjoggkielpipaa
