/-
  Windows: which lists are windows, the program's and the reference's.
-/
import Derived.Test.YtfjoggkielpipaaWin
import Derived.Deep.QuietTactic
import Derived.BigQuiet
namespace Go.Proofs.Ytfjoggkielpipaa
open Go.RowKit Go.Sort

def isWn (s : Wn) : Bool := (inR s.p 1 9 && inR s.f 0 167) && inR s.t (s.f + 1) 168
theorem isWn_iff {s : Wn} : isWn s = true ↔ (1 ≤ s.p ∧ s.p ≤ 9) ∧ (0 ≤ s.f ∧ s.f ≤ 167) ∧ (s.f + 1 ≤ s.t ∧ s.t ≤ 168) := by simp [isWn, inR, and_assoc]
/-- y does not follow x. -/
def badw (x y : Wn) : Bool := decide (y.p < x.p) || (decide (y.p = x.p) && decide (y.f ≤ x.t))
def wnAt (L : List Wn) (k : Nat) : Bool := isWn (L.getD k ⟨0, 0, 0⟩) && (decide (k = 0) || !badw (L.getD (k - 1) ⟨0, 0, 0⟩) (L.getD k ⟨0, 0, 0⟩))
def wnTo (L : List Wn) (k : Nat) : Bool := (List.range k).all (wnAt L)
def wnOk (L : List Wn) : Bool := wnTo L L.length && decide (L.length ≤ 20)
theorem wnTo_succ {L : List Wn} {k : Nat} (h : wnTo L k = true) (h' : wnAt L k = true) : wnTo L (k + 1) = true := by
  simp only [wnTo, List.range_succ, List.all_append, List.all_cons, List.all_nil, Bool.and_true] at *
  rw [h, h']; rfl
theorem wnTo_no {L : List Wn} {k n : Nat} (hk : k < n) (h' : wnAt L k = false) : wnTo L n = false := by
  rw [← Bool.not_eq_true, wnTo, List.all_eq_true]
  intro h
  have := h k (List.mem_range.2 hk)
  rw [h'] at this
  exact absurd this (by simp)
theorem wnTo_at {L : List Wn} (h : wnTo L L.length = true) {k : Nat} {s : Wn} (hk : L[k]? = some s) : isWn s = true := by
  have hl : k < L.length := (List.getElem?_eq_some_iff.1 hk).1
  rw [wnTo, List.all_eq_true] at h
  have := h k (List.mem_range.2 hl)
  simp only [wnAt, Bool.and_eq_true] at this
  have e : L.getD k ⟨0, 0, 0⟩ = s := by simp [hk]
  rw [e] at this
  exact this.1
theorem wnAt_first {L : List Wn} {s : Wn} (h : L[0]? = some s) : wnAt L 0 = isWn s := by simp [wnAt, h]
theorem wnAt_next {L : List Wn} {k : Nat} {r s : Wn} (h0 : 0 < k) (hr : L[k - 1]? = some r) (hs : L[k]? = some s) : wnAt L k = (isWn s && !badw r s) := by
  have : ¬ k = 0 := by omega
  simp [wnAt, hr, hs, this]
theorem wnAt_bad {L : List Wn} {k : Nat} {s : Wn} (hs : L[k]? = some s) (h : isWn s = false) : wnAt L k = false := by simp [wnAt, hs, h]

theorem badw_cases (r s : Wn) : (decide (s.p < r.p) = true ∧ s.p < r.p ∧ Hid (badw r s = true)) ∨ (decide (s.p < r.p) = false ∧ ¬ s.p < r.p ∧ ((r.p == s.p) = true ∧ (s.p == r.p) = true) ∧ s.f ≤ r.t ∧ decide (s.f ≤ r.t) = true ∧ Hid (badw r s = true)) ∨
    (decide (s.p < r.p) = false ∧ ¬ s.p < r.p ∧ ((r.p == s.p) = true ∧ (s.p == r.p) = true) ∧ ¬ s.f ≤ r.t ∧ decide (s.f ≤ r.t) = false ∧ Hid (badw r s = false)) ∨ (decide (s.p < r.p) = false ∧ ¬ s.p < r.p ∧ ((r.p == s.p) = false ∧ (s.p == r.p) = false) ∧ Hid (badw r s = false)) := by
  by_cases q1 : s.p < r.p
  · exact .inl ⟨by simpa using q1, q1, Lib.hid (by simp [badw, q1])⟩
  · by_cases q2 : r.p = s.p
    · by_cases q3 : s.f ≤ r.t
      · exact .inr (.inl ⟨by simpa using q1, q1, ⟨by simpa using q2, by simpa using q2.symm⟩, q3, by simpa using q3, Lib.hid (by simp [badw, q2, q3])⟩)
      · exact .inr (.inr (.inl ⟨by simpa using q1, q1, ⟨by simpa using q2, by simpa using q2.symm⟩, q3, by simpa using q3, Lib.hid (by simp [badw, q2, q3])⟩))
    · exact .inr (.inr (.inr ⟨by simpa using q1, q1, ⟨by simpa using q2, by simpa using fun e => q2 e.symm⟩, Lib.hid (by simp only [badw, Bool.or_eq_false_iff, Bool.and_eq_false_iff, decide_eq_false_iff_not]; exact ⟨q1, .inl (fun e => q2 e.symm)⟩)⟩))

theorem isWindow_any (s : Wn) (w : World) : Calls Try.prog 78 #[.agg #[.int .i64 s.p, .int .i64 s.f, .int .i64 s.t]] w fun e w' => e = .returned (.bool (isWn s)) ∧ ∃ o, w.alloc o = w' := by
  cases h1 : inR s.p 1 9
  · go_enter Try.func78, Try.ntmps78
    go_wp2_with (go_at_call 66; refine (within_any _ _ _ _).mono ?_; rintro e w' ⟨rfl, rfl⟩)
    go_ret
    exact ⟨ret_bool (by simp [isWn, h1]), _, rfl⟩
  cases h2 : decide (0 ≤ s.f)
  · go_enter Try.func78, Try.ntmps78
    go_wp2_with (go_at_call 66; refine (within_any _ _ _ _).mono ?_; rintro e w' ⟨rfl, rfl⟩)
    go_ret
    exact ⟨ret_bool (by simp [isWn, inR] at h2 ⊢; omega), _, rfl⟩
  cases h3 : decide (s.f < s.t)
  · go_enter Try.func78, Try.ntmps78
    go_wp2_with (go_at_call 66; refine (within_any _ _ _ _).mono ?_; rintro e w' ⟨rfl, rfl⟩)
    go_ret
    exact ⟨ret_bool (by simp [isWn, inR] at h3 ⊢; omega), _, rfl⟩
  go_enter Try.func78, Try.ntmps78
  go_wp2_with (go_at_call 66; refine (within_any _ _ _ _).mono ?_; rintro e w' ⟨rfl, rfl⟩)
  go_ret
  exact ⟨ret_bool (by simp [isWn, inR] at h1 h2 h3 ⊢; by_cases h4 : s.t ≤ 168 <;> simp [h4] <;> omega), _, rfl⟩

theorem wnHour_any (n : Int) (w : World) : Calls Try.prog 82 #[.int .i64 n] w fun e w' => e = .returned (.bool (inR n 0 167)) ∧ w = w' := by
  go_enter Try.func82, Try.ntmps82
  go_wp2_with (go_at_call 81; refine (l1In_any _ _ _ _).mono ?_; rintro e w' ⟨rfl, rfl⟩)
  go_ret
  exact ⟨rfl, rfl⟩
theorem wnPlace_any (n : Int) (w : World) : Calls Try.prog 80 #[.int .i64 n] w fun e w' => e = .returned (.bool (inR n 1 9)) ∧ w = w' := by
  go_enter Try.func80, Try.ntmps80
  go_wp2_with (go_at_call 81; refine (l1In_any _ _ _ _).mono ?_; rintro e w' ⟨rfl, rfl⟩)
  go_ret
  exact ⟨rfl, rfl⟩

theorem wnWindow_any (s : Wn) (w : World) : Calls Try.prog 93 #[.agg #[.int .i64 s.p, .int .i64 s.f, .int .i64 s.t]] w fun e w' => e = .returned (.bool (isWn s)) ∧ ∃ o, w.alloc o = w' := by
  cases h1 : inR s.p 1 9
  · go_enter Try.func93, Try.ntmps93
    go_wp2_with (first | (go_at_call 81; refine (l1In_any _ _ _ _).mono ?_; rintro e w' ⟨rfl, rfl⟩) | (go_at_call 82; refine (wnHour_any _ _).mono ?_; rintro e w' ⟨rfl, rfl⟩))
    go_ret
    exact ⟨ret_bool (by simp [isWn, h1]), _, rfl⟩
  cases h2 : inR s.f 0 167
  · go_enter Try.func93, Try.ntmps93
    go_wp2_with (first | (go_at_call 81; refine (l1In_any _ _ _ _).mono ?_; rintro e w' ⟨rfl, rfl⟩) | (go_at_call 82; refine (wnHour_any _ _).mono ?_; rintro e w' ⟨rfl, rfl⟩))
    go_ret
    exact ⟨ret_bool (by simp [isWn, h2]), _, rfl⟩
  have h3 := inR_iff.1 h2
  have e : Hid (isWn s = inR s.t (s.f + 1) 168) := Lib.hid (by simp [isWn, h1, h2])
  go_enter Try.func93, Try.ntmps93
  go_wp2_with (first | (go_at_call 81; refine (l1In_any _ _ _ _).mono ?_; rintro e w' ⟨rfl, rfl⟩) | (go_at_call 82; refine (wnHour_any _ _).mono ?_; rintro e w' ⟨rfl, rfl⟩))
  go_ret
  exact ⟨ret_bool (by rw [e.out]), _, rfl⟩

set_option maxHeartbeats 1600000 in
theorem wnGood_any (A : Option Addr) (c : Nat) (L : List Wn) (w : World) (hm : Mem w A (windows L)) (hl : L.length ≤ 1048576) : Calls Try.prog 76 #[.slice A L.length c] w fun e w' => e = .returned (.bool (wnOk L)) ∧ Below w.heap.size w w' := by
  go_enter Try.func76, Try.ntmps76
  go_wp2
  go_loopw [3, 4, 7] (fun _ _ i wr => ∃ k : Nat, k ≤ L.length ∧ i = .int .i64 k ∧ Below w.heap.size w wr ∧ Hid (wnTo L k = true)) (fun _ _ i _ => L.length - (intOf i).toNat)
  case atStart => exact ⟨0, by omega, rfl, Below.refl _ _, Lib.hid rfl⟩
  case round =>
    obtain ⟨k, hk, rfl, hb, H⟩ := hrel
    have hsz := hb.size
    by_cases hlt : k < L.length
    · obtain ⟨s, hs⟩ := some_of_lt hlt
      obtain ⟨b, off, rfl, h1, h2, h3⟩ := (hm.below hb).window hs
      have hbl : b < wr.heap.size := World.block_lt_of_cell? wr _ h1
      have HS := Lib.hid hs
      clear hs
      cases hg : isWn s
      · go_wp2_with (go_at_call 93; refine (wnWindow_any _ _).mono ?_; rintro e w' ⟨rfl, o, rfl⟩)
        go_ret
        exact ⟨ret_bool (by rw [wnOk, wnTo_no hlt (wnAt_bad HS.out hg)]; rfl), (hb.alloc (by omega) _).alloc (by simp; omega) _⟩
      · have HG := Lib.hid hg
        by_cases h0 : k = 0
        · subst h0
          simp only [Nat.zero_mul, Nat.add_zero] at h1 h2 h3
          have HN := Lib.hid (wnTo_succ H.out ((wnAt_first HS.out).trans hg))
          go_wp2_with (go_at_call 93; refine (wnWindow_any _ _).mono ?_; rintro e w' ⟨rfl, o, rfl⟩)
          go_quiet (fail)
          go_wp2
          go_roundw
          case rel => exact ⟨1, by omega, by go_num, Below.drewN ((hb.alloc (by omega) _).alloc (by simp; omega) _) _, HN.out⟩
          case measure => simp [intOf]; omega
        · obtain ⟨r, hr⟩ := some_of_lt (L := L) (k := k - 1) (by omega)
          obtain ⟨b2, off2, e0, g1, g2, g3⟩ := (hm.below hb).window hr
          obtain ⟨rfl, rfl⟩ : b = b2 ∧ off = off2 := by simpa using e0
          have HA := Lib.hid (wnAt_next (by omega) hr HS.out)
          have hkp : (0 : Int) < (k : Int) := by omega
          have hkn : 0 < k := by omega
          have hkd : decide (0 < k) = true := by simpa using hkn
          have i1 : (0 : Int) ≤ (k : Int) - 1 := by omega
          have i2 : (k : Int) - 1 < (L.length : Int) := by omega
          clear hr e0 h0
          rcases badw_cases r s with ⟨q1, q2, HB⟩ | ⟨q1, q2, ⟨q3, q3'⟩, q4, q5, HB⟩ | ⟨q1, q2, ⟨q3, q3'⟩, q4, q5, HB⟩ | ⟨q1, q2, ⟨q3, q3'⟩, HB⟩
          all_goals
            go_wp2_with (go_at_call 93; refine (wnWindow_any _ _).mono ?_; rintro e w' ⟨rfl, o, rfl⟩)
            go_quiet (fail)
            go_wp2
          case _ | _ =>
            go_ret
            exact ⟨ret_bool (by rw [wnOk, wnTo_no hlt (by rw [HA.out, HB.out, HG.out]; rfl)]; rfl), Below.drewN ((hb.alloc (by omega) _).alloc (by simp; omega) _) _⟩
          all_goals
            go_roundw
            case rel => exact ⟨k + 1, by omega, by go_num, Below.drewN ((hb.alloc (by omega) _).alloc (by simp; omega) _) _, Lib.hid (wnTo_succ H.out (by rw [HA.out, HB.out, HG.out]; rfl))⟩
            case measure => simp [intOf]; omega
    · go_wp2
      go_ret
      have e1 : k = L.length := by omega
      subst e1
      exact ⟨ret_bool (by rw [wnOk, H.out]; simp; omega), hb⟩
set_option maxHeartbeats 1600000 in
theorem AreWindows_any (A : Option Addr) (c : Nat) (L : List Wn) (w : World) (hm : Mem w A (windows L)) (hl : L.length ≤ 1048576) : Calls Try.prog 44 #[.slice A L.length c] w fun e w' => e = .returned (.bool (wnOk L)) ∧ Below w.heap.size w w' := by
  by_cases h20 : 20 < L.length
  · go_enter Try.func44, Try.ntmps44
    go_wp2
    go_ret
    exact ⟨ret_bool (by simp [wnOk]; omega), Below.refl _ _⟩
  go_enter Try.func44, Try.ntmps44
  go_wp2
  go_loopw [3, 4, 10] (fun _ _ i wr => ∃ k : Nat, k ≤ L.length ∧ i = .int .i64 k ∧ Below w.heap.size w wr ∧ Hid (wnTo L k = true)) (fun _ _ i _ => L.length - (intOf i).toNat)
  case atStart => exact ⟨0, by omega, rfl, Below.refl _ _, Lib.hid rfl⟩
  case round =>
    obtain ⟨k, hk, rfl, hb, H⟩ := hrel
    have hsz := hb.size
    by_cases hlt : k < L.length
    · obtain ⟨s, hs⟩ := some_of_lt hlt
      obtain ⟨b, off, rfl, h1, h2, h3⟩ := (hm.below hb).window hs
      have hbl : b < wr.heap.size := World.block_lt_of_cell? wr _ h1
      have HS := Lib.hid hs
      clear hs
      cases hg : isWn s
      · go_wp2_with (go_at_call 78; refine (isWindow_any _ _).mono ?_; rintro e w' ⟨rfl, o, rfl⟩)
        go_ret
        exact ⟨ret_bool (by rw [wnOk, wnTo_no hlt (wnAt_bad HS.out hg)]; rfl), (hb.alloc (by omega) _).alloc (by simp; omega) _⟩
      · have HG := Lib.hid hg
        by_cases h0 : k = 0
        · subst h0
          simp only [Nat.zero_mul, Nat.add_zero] at h1 h2 h3
          have HN := Lib.hid (wnTo_succ H.out ((wnAt_first HS.out).trans hg))
          go_wp2_with (go_at_call 78; refine (isWindow_any _ _).mono ?_; rintro e w' ⟨rfl, o, rfl⟩)
          go_quiet (fail)
          go_wp2
          go_roundw
          case rel => exact ⟨1, by omega, by go_num, Below.drewN ((hb.alloc (by omega) _).alloc (by simp; omega) _) _, HN.out⟩
          case measure => simp [intOf]; omega
        · obtain ⟨r, hr⟩ := some_of_lt (L := L) (k := k - 1) (by omega)
          obtain ⟨b2, off2, e0, g1, g2, g3⟩ := (hm.below hb).window hr
          obtain ⟨rfl, rfl⟩ : b = b2 ∧ off = off2 := by simpa using e0
          have HA := Lib.hid (wnAt_next (by omega) hr HS.out)
          have hkp : (0 : Int) < (k : Int) := by omega
          have hkn : 0 < k := by omega
          have hkd : decide (0 < k) = true := by simpa using hkn
          have i1 : (0 : Int) ≤ (k : Int) - 1 := by omega
          have i2 : (k : Int) - 1 < (L.length : Int) := by omega
          clear hr e0 h0
          rcases badw_cases r s with ⟨q1, q2, HB⟩ | ⟨q1, q2, ⟨q3, q3'⟩, q4, q5, HB⟩ | ⟨q1, q2, ⟨q3, q3'⟩, q4, q5, HB⟩ | ⟨q1, q2, ⟨q3, q3'⟩, HB⟩
          all_goals
            go_wp2_with (go_at_call 78; refine (isWindow_any _ _).mono ?_; rintro e w' ⟨rfl, o, rfl⟩)
            go_quiet (fail)
            go_wp2
          case _ | _ =>
            go_ret
            exact ⟨ret_bool (by rw [wnOk, wnTo_no hlt (by rw [HA.out, HB.out, HG.out]; rfl)]; rfl), Below.drewN ((hb.alloc (by omega) _).alloc (by simp; omega) _) _⟩
          all_goals
            go_roundw
            case rel => exact ⟨k + 1, by omega, by go_num, Below.drewN ((hb.alloc (by omega) _).alloc (by simp; omega) _) _, Lib.hid (wnTo_succ H.out (by rw [HA.out, HB.out, HG.out]; rfl))⟩
            case measure => simp [intOf]; omega
    · go_wp2
      go_ret
      have e1 : k = L.length := by omega
      subst e1
      exact ⟨ret_bool (by rw [wnOk, H.out]; simp; omega), hb⟩
end Go.Proofs.Ytfjoggkielpipaa
