/-
  Windows: the first room.
-/
import Derived.Test.YtfjoggkielpipaaWing
namespace Go.Proofs.Ytfjoggkielpipaa
open Go.RowKit Go.Sort

set_option maxHeartbeats 3200000 in
theorem spec_FirstRoom_any (A : Option Addr) (c : Nat) (L : List Wn) (hours fm : Int) (w : World) (hm : Mem w A (windows L)) (hl : L.length ≤ 1048576) : Calls Try.prog 50 #[.slice A L.length c, .int .i64 hours, .int .i64 fm] w fun e w' =>
    e = .returned (.tuple #[.int .i64 (fr1 L hours fm), .int .i64 (fr2 L hours fm), .bool (frOk L hours fm)]) ∧ Below w.heap.size w w' := by
  cases h1 : wnOk L
  · go_enter Try.func50, Try.ntmps50
    go_wp2_with (first | (go_at_call 76; refine (wnGood_any _ _ L _ (hm.below (by (repeat (first | exact Below.refl _ _ | assumption | (refine Below.alloc ?_ (by first | omega | (simp; done) | (simp; omega)) _) | (refine Below.setCell ?_ (by first | omega | (simp; done) | (simp; omega)) _) | (refine Below.drew ?_) | (refine Below.drewN ?_ _) | (refine Below.next (by assumption) ?_ (by first | omega | (simp; done) | (simp; omega))))))) hl).mono ?_; rintro e w' ⟨rfl, hq⟩; obtain ⟨hz, hc, hf⟩ := bel hq; (try simp at hz); (try have gz1 : w.heap.size < w'.heap.size := by omega); (try have gz2 : w.heap.size + 1 < w'.heap.size := by omega); (try have gz3 : wr.heap.size < w'.heap.size := by omega)) | (go_at_call 81; refine (l1In_any _ _ _ _).mono ?_; rintro e w' ⟨rfl, rfl⟩) | (go_at_call 82; refine (wnHour_any _ _).mono ?_; rintro e w' ⟨rfl, rfl⟩))
    go_ret3
    exact ⟨ret_three (by simp [fr1, frOk, frGood, h1]) (by simp [fr2, frOk, frGood, h1]) (by simp [frOk, frGood, h1]), by (repeat (first | exact Below.refl _ _ | assumption | (refine Below.alloc ?_ (by first | omega | (simp; done) | (simp; omega)) _) | (refine Below.setCell ?_ (by first | omega | (simp; done) | (simp; omega)) _) | (refine Below.drew ?_) | (refine Below.drewN ?_ _) | (refine Below.next (by assumption) ?_ (by first | omega | (simp; done) | (simp; omega)))))⟩
  cases h2 : inR hours 1 168
  · go_enter Try.func50, Try.ntmps50
    go_wp2_with (first | (go_at_call 76; refine (wnGood_any _ _ L _ (hm.below (by (repeat (first | exact Below.refl _ _ | assumption | (refine Below.alloc ?_ (by first | omega | (simp; done) | (simp; omega)) _) | (refine Below.setCell ?_ (by first | omega | (simp; done) | (simp; omega)) _) | (refine Below.drew ?_) | (refine Below.drewN ?_ _) | (refine Below.next (by assumption) ?_ (by first | omega | (simp; done) | (simp; omega))))))) hl).mono ?_; rintro e w' ⟨rfl, hq⟩; obtain ⟨hz, hc, hf⟩ := bel hq; (try simp at hz); (try have gz1 : w.heap.size < w'.heap.size := by omega); (try have gz2 : w.heap.size + 1 < w'.heap.size := by omega); (try have gz3 : wr.heap.size < w'.heap.size := by omega)) | (go_at_call 81; refine (l1In_any _ _ _ _).mono ?_; rintro e w' ⟨rfl, rfl⟩) | (go_at_call 82; refine (wnHour_any _ _).mono ?_; rintro e w' ⟨rfl, rfl⟩))
    go_ret3
    exact ⟨ret_three (by simp [fr1, frOk, frGood, h2]) (by simp [fr2, frOk, frGood, h2]) (by simp [frOk, frGood, h2]), by (repeat (first | exact Below.refl _ _ | assumption | (refine Below.alloc ?_ (by first | omega | (simp; done) | (simp; omega)) _) | (refine Below.setCell ?_ (by first | omega | (simp; done) | (simp; omega)) _) | (refine Below.drew ?_) | (refine Below.drewN ?_ _) | (refine Below.next (by assumption) ?_ (by first | omega | (simp; done) | (simp; omega)))))⟩
  cases h3 : inR fm 0 167
  · go_enter Try.func50, Try.ntmps50
    go_wp2_with (first | (go_at_call 76; refine (wnGood_any _ _ L _ (hm.below (by (repeat (first | exact Below.refl _ _ | assumption | (refine Below.alloc ?_ (by first | omega | (simp; done) | (simp; omega)) _) | (refine Below.setCell ?_ (by first | omega | (simp; done) | (simp; omega)) _) | (refine Below.drew ?_) | (refine Below.drewN ?_ _) | (refine Below.next (by assumption) ?_ (by first | omega | (simp; done) | (simp; omega))))))) hl).mono ?_; rintro e w' ⟨rfl, hq⟩; obtain ⟨hz, hc, hf⟩ := bel hq; (try simp at hz); (try have gz1 : w.heap.size < w'.heap.size := by omega); (try have gz2 : w.heap.size + 1 < w'.heap.size := by omega); (try have gz3 : wr.heap.size < w'.heap.size := by omega)) | (go_at_call 81; refine (l1In_any _ _ _ _).mono ?_; rintro e w' ⟨rfl, rfl⟩) | (go_at_call 82; refine (wnHour_any _ _).mono ?_; rintro e w' ⟨rfl, rfl⟩))
    go_ret3
    exact ⟨ret_three (by simp [fr1, frOk, frGood, h3]) (by simp [fr2, frOk, frGood, h3]) (by simp [frOk, frGood, h3]), by (repeat (first | exact Below.refl _ _ | assumption | (refine Below.alloc ?_ (by first | omega | (simp; done) | (simp; omega)) _) | (refine Below.setCell ?_ (by first | omega | (simp; done) | (simp; omega)) _) | (refine Below.drew ?_) | (refine Below.drewN ?_ _) | (refine Below.next (by assumption) ?_ (by first | omega | (simp; done) | (simp; omega)))))⟩
  have HV : Hid (frGood L hours fm = true) := Lib.hid (by simp [frGood, h1, h2, h3])
  obtain ⟨g1, g2⟩ := wnOk_iff.1 h1
  have HG := Lib.hid g1
  have q2 := inR_iff.1 h2
  have q3 := inR_iff.1 h3
  go_enter Try.func50, Try.ntmps50
  go_wp2_with (first | (go_at_call 76; refine (wnGood_any _ _ L _ (hm.below (by (repeat (first | exact Below.refl _ _ | assumption | (refine Below.alloc ?_ (by first | omega | (simp; done) | (simp; omega)) _) | (refine Below.setCell ?_ (by first | omega | (simp; done) | (simp; omega)) _) | (refine Below.drew ?_) | (refine Below.drewN ?_ _) | (refine Below.next (by assumption) ?_ (by first | omega | (simp; done) | (simp; omega))))))) hl).mono ?_; rintro e w' ⟨rfl, hq⟩; obtain ⟨hz, hc, hf⟩ := bel hq; (try simp at hz); (try have gz1 : w.heap.size < w'.heap.size := by omega); (try have gz2 : w.heap.size + 1 < w'.heap.size := by omega); (try have gz3 : wr.heap.size < w'.heap.size := by omega)) | (go_at_call 81; refine (l1In_any _ _ _ _).mono ?_; rintro e w' ⟨rfl, rfl⟩) | (go_at_call 82; refine (wnHour_any _ _).mono ?_; rintro e w' ⟨rfl, rfl⟩))
  have hb2 : Below w.heap.size w w' := by (repeat (first | exact Below.refl _ _ | assumption | (refine Below.alloc ?_ (by first | omega | (simp; done) | (simp; omega)) _) | (refine Below.setCell ?_ (by first | omega | (simp; done) | (simp; omega)) _) | (refine Below.drew ?_) | (refine Below.drewN ?_ _) | (refine Below.next (by assumption) ?_ (by first | omega | (simp; done) | (simp; omega)))))
  clear hq hz hc hf h1 h2 h3 g1
  go_loopw [9, 10, 12, 13, 29] (fun best pl _ _ i wr => ∃ (k : Nat) (h p x : Int), k ≤ L.length ∧ i = .int .i64 k ∧ best = .int .i64 x ∧ pl = .int .i64 p ∧ ((x = -1 ∧ p = 0 ∧ h = 168) ∨ (x = h ∧ 0 ≤ h ∧ 1 ≤ p ∧ p ≤ 9 ∧ h ≤ 167)) ∧ Below w.heap.size w wr ∧ Hid (frTo L hours fm k = (h, p))) (fun _ _ _ _ i _ => L.length - (intOf i).toNat)
  case atStart => exact ⟨0, 168, 0, -1, by omega, rfl, rfl, rfl, .inl ⟨rfl, rfl, rfl⟩, hb2, Lib.hid rfl⟩
  case round =>
    obtain ⟨k, h, p, x, hk, rfl, rfl, rfl, hx, hb, H⟩ := hrel
    have hsz := hb.size
    by_cases hlt : k < L.length
    · obtain ⟨s, hs⟩ := some_of_lt hlt
      obtain ⟨b, off, rfl, e1, e2, e3⟩ := (hm.below hb).window hs
      have hbl : b < wr.heap.size := World.block_lt_of_cell? wr _ e1
      have hws := isWn_iff.1 (wnTo_at HG.out hs)
      have HST := Lib.hid (frTo_succ hs H.out)
      obtain ⟨m, hmax⟩ : ∃ m, m = max s.f fm := ⟨_, rfl⟩
      have hmr : 0 ≤ m ∧ m ≤ 167 ∧ s.f ≤ m ∧ fm ≤ m := by omega
      have HM := Lib.hid hmax
      clear hs hmax
      have hcase : (decide (m + hours ≤ s.t) = false ∧ ¬ m + hours ≤ s.t) ∨ (decide (m + hours ≤ s.t) = true ∧ m + hours ≤ s.t ∧ decide (x < 0) = true ∧ x < 0) ∨
          (decide (m + hours ≤ s.t) = true ∧ m + hours ≤ s.t ∧ decide (x < 0) = false ∧ ¬ x < 0 ∧ m < x) ∨ (decide (m + hours ≤ s.t) = true ∧ m + hours ≤ s.t ∧ decide (x < 0) = false ∧ ¬ x < 0 ∧ ¬ m < x) := by
        by_cases r1 : m + hours ≤ s.t
        · by_cases r2 : x < 0
          · exact .inr (.inl ⟨by simpa using r1, r1, by simpa using r2, r2⟩)
          · by_cases r3 : m < x
            · exact .inr (.inr (.inl ⟨by simpa using r1, r1, by simpa using r2, r2, r3⟩))
            · exact .inr (.inr (.inr ⟨by simpa using r1, r1, by simpa using r2, r2, r3⟩))
        · exact .inl ⟨by simpa using r1, r1⟩
      rcases hcase with ⟨r1, r2⟩ | ⟨r1, r2, r3, r4⟩ | ⟨r1, r2, r3, r4, r5⟩ | ⟨r1, r2, r3, r4, r5⟩
      all_goals
        go_wp2_with (go_at_call 83; refine (l1Most_any _ _ _).mono ?_; rintro e w' ⟨rfl, rfl⟩; rw [← HM.out])
        go_roundw
        case rel => first
          | exact ⟨k + 1, m, s.p, m, by omega, by go_num, rfl, rfl, .inr (by omega), by (repeat (first | exact Below.refl _ _ | assumption | (refine Below.alloc ?_ (by first | omega | (simp; done) | (simp; omega)) _) | (refine Below.setCell ?_ (by first | omega | (simp; done) | (simp; omega)) _) | (refine Below.drew ?_) | (refine Below.drewN ?_ _) | (refine Below.next (by assumption) ?_ (by first | omega | (simp; done) | (simp; omega))))), Lib.hid (by rw [HST.out, ← HM.out, if_pos (by omega)])⟩
          | exact ⟨k + 1, h, p, x, by omega, by go_num, rfl, rfl, hx, by (repeat (first | exact Below.refl _ _ | assumption | (refine Below.alloc ?_ (by first | omega | (simp; done) | (simp; omega)) _) | (refine Below.setCell ?_ (by first | omega | (simp; done) | (simp; omega)) _) | (refine Below.drew ?_) | (refine Below.drewN ?_ _) | (refine Below.next (by assumption) ?_ (by first | omega | (simp; done) | (simp; omega))))), Lib.hid (by rw [HST.out, ← HM.out, if_neg (by omega)])⟩
        case measure => simp [intOf]; omega
    · have e1 : k = L.length := by omega
      have HF : Hid ((x = -1 → fr1 L hours fm = 0 ∧ fr2 L hours fm = 0 ∧ frOk L hours fm = false) ∧ (x ≠ -1 → fr1 L hours fm = x ∧ fr2 L hours fm = p ∧ frOk L hours fm = true)) := Lib.hid (by
        have e2 := H.out
        rw [e1] at e2
        constructor
        · intro hx1
          have hp : p = 0 := by omega
          have : frOk L hours fm = false := by simp [frOk, e2, hp]
          simp [fr1, fr2, this]
        · intro hx1
          have hp : ¬ p = 0 := by omega
          have hh : x = h := by omega
          have : frOk L hours fm = true := by simp [frOk, HV.out, e2, hp]
          simp [fr1, fr2, this, e2, hh])
      clear e1
      by_cases hx0 : x < 0
      · go_wp2
        go_ret3
        have := HF.out.1 (by omega)
        exact ⟨ret_three this.1.symm this.2.1.symm this.2.2.symm, by (repeat (first | exact Below.refl _ _ | assumption | (refine Below.alloc ?_ (by first | omega | (simp; done) | (simp; omega)) _) | (refine Below.setCell ?_ (by first | omega | (simp; done) | (simp; omega)) _) | (refine Below.drew ?_) | (refine Below.drewN ?_ _) | (refine Below.next (by assumption) ?_ (by first | omega | (simp; done) | (simp; omega)))))⟩
      · go_wp2
        go_ret3
        have := HF.out.2 (by omega)
        exact ⟨ret_three this.1.symm this.2.1.symm this.2.2.symm, by (repeat (first | exact Below.refl _ _ | assumption | (refine Below.alloc ?_ (by first | omega | (simp; done) | (simp; omega)) _) | (refine Below.setCell ?_ (by first | omega | (simp; done) | (simp; omega)) _) | (refine Below.drew ?_) | (refine Below.drewN ?_ _) | (refine Below.next (by assumption) ?_ (by first | omega | (simp; done) | (simp; omega)))))⟩
set_option maxHeartbeats 3200000 in
theorem impl_FirstRoom_any (A : Option Addr) (c : Nat) (L : List Wn) (hours fm : Int) (w : World) (hm : Mem w A (windows L)) (hl : L.length ≤ 1048576) : Calls Try.prog 51 #[.slice A L.length c, .int .i64 hours, .int .i64 fm] w fun e w' =>
    e = .returned (.tuple #[.int .i64 (fr1 L hours fm), .int .i64 (fr2 L hours fm), .bool (frOk L hours fm)]) ∧ Below w.heap.size w w' := by
  cases h1 : wnOk L
  · go_enter Try.func51, Try.ntmps51
    go_wp2_with (first | (go_at_call 44; refine (AreWindows_any _ _ L _ (hm.below (by (repeat (first | exact Below.refl _ _ | assumption | (refine Below.alloc ?_ (by first | omega | (simp; done) | (simp; omega)) _) | (refine Below.setCell ?_ (by first | omega | (simp; done) | (simp; omega)) _) | (refine Below.drew ?_) | (refine Below.drewN ?_ _) | (refine Below.next (by assumption) ?_ (by first | omega | (simp; done) | (simp; omega))))))) hl).mono ?_; rintro e w' ⟨rfl, hq⟩; obtain ⟨hz, hc, hf⟩ := bel hq; (try simp at hz); (try have gz1 : w.heap.size < w'.heap.size := by omega); (try have gz2 : w.heap.size + 1 < w'.heap.size := by omega); (try have gz3 : wr.heap.size < w'.heap.size := by omega)) | (go_at_call 66; refine (within_any _ _ _ _).mono ?_; rintro e w' ⟨rfl, rfl⟩) | (go_at_call 66; refine (within_any _ _ _ _).mono ?_; rintro e w' ⟨rfl, rfl⟩))
    go_ret3
    exact ⟨ret_three (by simp [fr1, frOk, frGood, h1]) (by simp [fr2, frOk, frGood, h1]) (by simp [frOk, frGood, h1]), by (repeat (first | exact Below.refl _ _ | assumption | (refine Below.alloc ?_ (by first | omega | (simp; done) | (simp; omega)) _) | (refine Below.setCell ?_ (by first | omega | (simp; done) | (simp; omega)) _) | (refine Below.drew ?_) | (refine Below.drewN ?_ _) | (refine Below.next (by assumption) ?_ (by first | omega | (simp; done) | (simp; omega)))))⟩
  cases h2 : inR hours 1 168
  · go_enter Try.func51, Try.ntmps51
    go_wp2_with (first | (go_at_call 44; refine (AreWindows_any _ _ L _ (hm.below (by (repeat (first | exact Below.refl _ _ | assumption | (refine Below.alloc ?_ (by first | omega | (simp; done) | (simp; omega)) _) | (refine Below.setCell ?_ (by first | omega | (simp; done) | (simp; omega)) _) | (refine Below.drew ?_) | (refine Below.drewN ?_ _) | (refine Below.next (by assumption) ?_ (by first | omega | (simp; done) | (simp; omega))))))) hl).mono ?_; rintro e w' ⟨rfl, hq⟩; obtain ⟨hz, hc, hf⟩ := bel hq; (try simp at hz); (try have gz1 : w.heap.size < w'.heap.size := by omega); (try have gz2 : w.heap.size + 1 < w'.heap.size := by omega); (try have gz3 : wr.heap.size < w'.heap.size := by omega)) | (go_at_call 66; refine (within_any _ _ _ _).mono ?_; rintro e w' ⟨rfl, rfl⟩) | (go_at_call 66; refine (within_any _ _ _ _).mono ?_; rintro e w' ⟨rfl, rfl⟩))
    go_ret3
    exact ⟨ret_three (by simp [fr1, frOk, frGood, h2]) (by simp [fr2, frOk, frGood, h2]) (by simp [frOk, frGood, h2]), by (repeat (first | exact Below.refl _ _ | assumption | (refine Below.alloc ?_ (by first | omega | (simp; done) | (simp; omega)) _) | (refine Below.setCell ?_ (by first | omega | (simp; done) | (simp; omega)) _) | (refine Below.drew ?_) | (refine Below.drewN ?_ _) | (refine Below.next (by assumption) ?_ (by first | omega | (simp; done) | (simp; omega)))))⟩
  cases h3 : inR fm 0 167
  · go_enter Try.func51, Try.ntmps51
    go_wp2_with (first | (go_at_call 44; refine (AreWindows_any _ _ L _ (hm.below (by (repeat (first | exact Below.refl _ _ | assumption | (refine Below.alloc ?_ (by first | omega | (simp; done) | (simp; omega)) _) | (refine Below.setCell ?_ (by first | omega | (simp; done) | (simp; omega)) _) | (refine Below.drew ?_) | (refine Below.drewN ?_ _) | (refine Below.next (by assumption) ?_ (by first | omega | (simp; done) | (simp; omega))))))) hl).mono ?_; rintro e w' ⟨rfl, hq⟩; obtain ⟨hz, hc, hf⟩ := bel hq; (try simp at hz); (try have gz1 : w.heap.size < w'.heap.size := by omega); (try have gz2 : w.heap.size + 1 < w'.heap.size := by omega); (try have gz3 : wr.heap.size < w'.heap.size := by omega)) | (go_at_call 66; refine (within_any _ _ _ _).mono ?_; rintro e w' ⟨rfl, rfl⟩) | (go_at_call 66; refine (within_any _ _ _ _).mono ?_; rintro e w' ⟨rfl, rfl⟩))
    go_ret3
    exact ⟨ret_three (by simp [fr1, frOk, frGood, h3]) (by simp [fr2, frOk, frGood, h3]) (by simp [frOk, frGood, h3]), by (repeat (first | exact Below.refl _ _ | assumption | (refine Below.alloc ?_ (by first | omega | (simp; done) | (simp; omega)) _) | (refine Below.setCell ?_ (by first | omega | (simp; done) | (simp; omega)) _) | (refine Below.drew ?_) | (refine Below.drewN ?_ _) | (refine Below.next (by assumption) ?_ (by first | omega | (simp; done) | (simp; omega)))))⟩
  have HV : Hid (frGood L hours fm = true) := Lib.hid (by simp [frGood, h1, h2, h3])
  obtain ⟨g1, g2⟩ := wnOk_iff.1 h1
  have HG := Lib.hid g1
  have q2 := inR_iff.1 h2
  have q3 := inR_iff.1 h3
  go_enter Try.func51, Try.ntmps51
  go_wp2_with (first | (go_at_call 44; refine (AreWindows_any _ _ L _ (hm.below (by (repeat (first | exact Below.refl _ _ | assumption | (refine Below.alloc ?_ (by first | omega | (simp; done) | (simp; omega)) _) | (refine Below.setCell ?_ (by first | omega | (simp; done) | (simp; omega)) _) | (refine Below.drew ?_) | (refine Below.drewN ?_ _) | (refine Below.next (by assumption) ?_ (by first | omega | (simp; done) | (simp; omega))))))) hl).mono ?_; rintro e w' ⟨rfl, hq⟩; obtain ⟨hz, hc, hf⟩ := bel hq; (try simp at hz); (try have gz1 : w.heap.size < w'.heap.size := by omega); (try have gz2 : w.heap.size + 1 < w'.heap.size := by omega); (try have gz3 : wr.heap.size < w'.heap.size := by omega)) | (go_at_call 66; refine (within_any _ _ _ _).mono ?_; rintro e w' ⟨rfl, rfl⟩) | (go_at_call 66; refine (within_any _ _ _ _).mono ?_; rintro e w' ⟨rfl, rfl⟩))
  have hb2 : Below w.heap.size w w' := by (repeat (first | exact Below.refl _ _ | assumption | (refine Below.alloc ?_ (by first | omega | (simp; done) | (simp; omega)) _) | (refine Below.setCell ?_ (by first | omega | (simp; done) | (simp; omega)) _) | (refine Below.drew ?_) | (refine Below.drewN ?_ _) | (refine Below.next (by assumption) ?_ (by first | omega | (simp; done) | (simp; omega)))))
  clear hq hz hc hf h1 h2 h3 g1
  go_loopw [9, 10, 12, 13, 29] (fun best pl _ _ i wr => ∃ (k : Nat) (h p : Int), k ≤ L.length ∧ i = .int .i64 k ∧ best = .int .i64 h ∧ pl = .int .i64 p ∧ ((p = 0 ∧ h = 168) ∨ (0 ≤ h ∧ 1 ≤ p ∧ p ≤ 9 ∧ h ≤ 167)) ∧ Below w.heap.size w wr ∧ Hid (frTo L hours fm k = (h, p))) (fun _ _ _ _ i _ => L.length - (intOf i).toNat)
  case atStart => exact ⟨0, 168, 0, by omega, rfl, rfl, rfl, .inl ⟨rfl, rfl⟩, hb2, Lib.hid rfl⟩
  case round =>
    obtain ⟨k, h, p, hk, rfl, rfl, rfl, hx, hb, H⟩ := hrel
    have hsz := hb.size
    by_cases hlt : k < L.length
    · obtain ⟨s, hs⟩ := some_of_lt hlt
      obtain ⟨b, off, rfl, e1, e2, e3⟩ := (hm.below hb).window hs
      have hbl : b < wr.heap.size := World.block_lt_of_cell? wr _ e1
      have hws := isWn_iff.1 (wnTo_at HG.out hs)
      have HST := Lib.hid (frTo_succ hs H.out)
      clear hs
      have hcase : (s.f < fm ∧ Hid (max s.f fm = fm)) ∨ (fm < s.f ∧ Hid (max s.f fm = s.f)) ∨ s.f = fm := by
        rcases Int.lt_trichotomy s.f fm with t1 | t1 | t1
        · exact .inl ⟨t1, Lib.hid (by omega)⟩
        · exact .inr (.inr t1)
        · exact .inr (.inl ⟨t1, Lib.hid (by omega)⟩)
      have key : ∀ m : Int, (decide (m + hours ≤ s.t) = false ∧ ¬ m + hours ≤ s.t) ∨ (decide (m + hours ≤ s.t) = true ∧ m + hours ≤ s.t ∧ m < h) ∨ (decide (m + hours ≤ s.t) = true ∧ m + hours ≤ s.t ∧ ¬ m < h) := by
        intro m
        by_cases r1 : m + hours ≤ s.t
        · by_cases r3 : m < h
          · exact .inr (.inl ⟨by simpa using r1, r1, r3⟩)
          · exact .inr (.inr ⟨by simpa using r1, r1, r3⟩)
        · exact .inl ⟨by simpa using r1, r1⟩
      have HK := Lib.hid key
      clear key
      rcases hcase with ⟨t1, HM⟩ | ⟨t1, HM⟩ | t1
      · rcases HK.out fm with ⟨r1, r2⟩ | ⟨r1, r2, r3⟩ | ⟨r1, r2, r3⟩
        all_goals
          go_wp2
          (try (go_quiet (fail); go_wp2))
          go_roundw
          case rel => first
            | exact ⟨k + 1, fm, s.p, by omega, by go_num, rfl, rfl, .inr (by omega), by first | exact Below.drewN (by (repeat (first | exact Below.refl _ _ | assumption | (refine Below.alloc ?_ (by first | omega | (simp; done) | (simp; omega)) _) | (refine Below.setCell ?_ (by first | omega | (simp; done) | (simp; omega)) _) | (refine Below.drew ?_) | (refine Below.drewN ?_ _) | (refine Below.next (by assumption) ?_ (by first | omega | (simp; done) | (simp; omega)))))) _ | (repeat (first | exact Below.refl _ _ | assumption | (refine Below.alloc ?_ (by first | omega | (simp; done) | (simp; omega)) _) | (refine Below.setCell ?_ (by first | omega | (simp; done) | (simp; omega)) _) | (refine Below.drew ?_) | (refine Below.drewN ?_ _) | (refine Below.next (by assumption) ?_ (by first | omega | (simp; done) | (simp; omega))))), Lib.hid (by rw [HST.out, HM.out, if_pos (by omega)])⟩
            | exact ⟨k + 1, h, p, by omega, by go_num, rfl, rfl, hx, by (repeat (first | exact Below.refl _ _ | assumption | (refine Below.alloc ?_ (by first | omega | (simp; done) | (simp; omega)) _) | (refine Below.setCell ?_ (by first | omega | (simp; done) | (simp; omega)) _) | (refine Below.drew ?_) | (refine Below.drewN ?_ _) | (refine Below.next (by assumption) ?_ (by first | omega | (simp; done) | (simp; omega))))), Lib.hid (by rw [HST.out, HM.out, if_neg (by omega)])⟩
          case measure => simp [intOf]; omega
      · rcases HK.out s.f with ⟨r1, r2⟩ | ⟨r1, r2, r3⟩ | ⟨r1, r2, r3⟩
        all_goals
          go_wp2
          (try (go_quiet (fail); go_wp2))
          go_roundw
          case rel => first
            | exact ⟨k + 1, s.f, s.p, by omega, by go_num, rfl, rfl, .inr (by omega), by first | exact Below.drewN (by (repeat (first | exact Below.refl _ _ | assumption | (refine Below.alloc ?_ (by first | omega | (simp; done) | (simp; omega)) _) | (refine Below.setCell ?_ (by first | omega | (simp; done) | (simp; omega)) _) | (refine Below.drew ?_) | (refine Below.drewN ?_ _) | (refine Below.next (by assumption) ?_ (by first | omega | (simp; done) | (simp; omega)))))) _ | (repeat (first | exact Below.refl _ _ | assumption | (refine Below.alloc ?_ (by first | omega | (simp; done) | (simp; omega)) _) | (refine Below.setCell ?_ (by first | omega | (simp; done) | (simp; omega)) _) | (refine Below.drew ?_) | (refine Below.drewN ?_ _) | (refine Below.next (by assumption) ?_ (by first | omega | (simp; done) | (simp; omega))))), Lib.hid (by rw [HST.out, HM.out, if_pos (by omega)])⟩
            | exact ⟨k + 1, h, p, by omega, by go_num, rfl, rfl, hx, by (repeat (first | exact Below.refl _ _ | assumption | (refine Below.alloc ?_ (by first | omega | (simp; done) | (simp; omega)) _) | (refine Below.setCell ?_ (by first | omega | (simp; done) | (simp; omega)) _) | (refine Below.drew ?_) | (refine Below.drewN ?_ _) | (refine Below.next (by assumption) ?_ (by first | omega | (simp; done) | (simp; omega))))), Lib.hid (by rw [HST.out, HM.out, if_neg (by omega)])⟩
          case measure => simp [intOf]; omega
      · have HM : Hid (max s.f fm = fm) := Lib.hid (by omega)
        have HT := Lib.hid t1
        rw [t1] at e2
        clear t1
        rcases HK.out fm with ⟨r1, r2⟩ | ⟨r1, r2, r3⟩ | ⟨r1, r2, r3⟩
        all_goals
          go_wp2
          (try (go_quiet (fail); go_wp2))
          go_roundw
          case rel => first
            | exact ⟨k + 1, fm, s.p, by omega, by go_num, rfl, rfl, .inr (by omega), by first | exact Below.drewN (by (repeat (first | exact Below.refl _ _ | assumption | (refine Below.alloc ?_ (by first | omega | (simp; done) | (simp; omega)) _) | (refine Below.setCell ?_ (by first | omega | (simp; done) | (simp; omega)) _) | (refine Below.drew ?_) | (refine Below.drewN ?_ _) | (refine Below.next (by assumption) ?_ (by first | omega | (simp; done) | (simp; omega)))))) _ | (repeat (first | exact Below.refl _ _ | assumption | (refine Below.alloc ?_ (by first | omega | (simp; done) | (simp; omega)) _) | (refine Below.setCell ?_ (by first | omega | (simp; done) | (simp; omega)) _) | (refine Below.drew ?_) | (refine Below.drewN ?_ _) | (refine Below.next (by assumption) ?_ (by first | omega | (simp; done) | (simp; omega))))), Lib.hid (by rw [HST.out, HM.out, if_pos (by omega)])⟩
            | exact ⟨k + 1, h, p, by omega, by go_num, rfl, rfl, hx, by (repeat (first | exact Below.refl _ _ | assumption | (refine Below.alloc ?_ (by first | omega | (simp; done) | (simp; omega)) _) | (refine Below.setCell ?_ (by first | omega | (simp; done) | (simp; omega)) _) | (refine Below.drew ?_) | (refine Below.drewN ?_ _) | (refine Below.next (by assumption) ?_ (by first | omega | (simp; done) | (simp; omega))))), Lib.hid (by rw [HST.out, HM.out, if_neg (by omega)])⟩
          case measure => simp [intOf]; omega
    · have e1 : k = L.length := by omega
      have HF : Hid ((p = 0 → fr1 L hours fm = 0 ∧ fr2 L hours fm = 0 ∧ frOk L hours fm = false) ∧ (p ≠ 0 → fr1 L hours fm = h ∧ fr2 L hours fm = p ∧ frOk L hours fm = true)) := Lib.hid (by
        have e2 := H.out
        rw [e1] at e2
        constructor
        · intro hp
          have : frOk L hours fm = false := by simp [frOk, e2, hp]
          simp [fr1, fr2, this]
        · intro hp
          have : frOk L hours fm = true := by simp [frOk, HV.out, e2, hp]
          simp [fr1, fr2, this, e2])
      clear e1
      by_cases hx0 : p = 0
      · have hxb : (p == 0) = true := by simpa using hx0
        have HX := Lib.hid hx0
        clear hx0
        go_wp2
        go_ret3
        have := HF.out.1 HX.out
        exact ⟨ret_three this.1.symm this.2.1.symm this.2.2.symm, by (repeat (first | exact Below.refl _ _ | assumption | (refine Below.alloc ?_ (by first | omega | (simp; done) | (simp; omega)) _) | (refine Below.setCell ?_ (by first | omega | (simp; done) | (simp; omega)) _) | (refine Below.drew ?_) | (refine Below.drewN ?_ _) | (refine Below.next (by assumption) ?_ (by first | omega | (simp; done) | (simp; omega)))))⟩
      · have hxb : (p == 0) = false := by simpa using hx0
        go_wp2
        go_ret3
        have := HF.out.2 hx0
        exact ⟨ret_three this.1.symm this.2.1.symm this.2.2.symm, by (repeat (first | exact Below.refl _ _ | assumption | (refine Below.alloc ?_ (by first | omega | (simp; done) | (simp; omega)) _) | (refine Below.setCell ?_ (by first | omega | (simp; done) | (simp; omega)) _) | (refine Below.drew ?_) | (refine Below.drewN ?_ _) | (refine Below.next (by assumption) ?_ (by first | omega | (simp; done) | (simp; omega)))))⟩
end Go.Proofs.Ytfjoggkielpipaa
