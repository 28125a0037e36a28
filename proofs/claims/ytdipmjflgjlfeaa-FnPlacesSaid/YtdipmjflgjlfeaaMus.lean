/-
  Music: valid measures, the number of counts, the time of a count; the program's and the reference's.
-/
import Derived.Test.YtdipmjflgjlfeaaMes
import Derived.Test.YtdipmjflgjlfeaaPlain2
import Derived.Deep.QuietTactic
import Derived.BigQuiet
namespace Go.Proofs.Ytdipmjflgjlfeaa
open Go.RowKit Go.Sort

def isMs (s : Ms) : Bool := inR s.c 1 12 && inR s.t 40 220
theorem isMs_iff {s : Ms} : isMs s = true ↔ (1 ≤ s.c ∧ s.c ≤ 12) ∧ (40 ≤ s.t ∧ s.t ≤ 220) := by simp [isMs, inR]
def musOk (L : List Ms) : Bool := L.all isMs && inR L.length 1 40
theorem musOk_iff {L : List Ms} : musOk L = true ↔ L.all isMs = true ∧ (1 : Int) ≤ L.length ∧ (L.length : Int) ≤ 40 := by simp [musOk, inR]
def cnTo (L : List Ms) : Nat → Int
  | 0 => 0
  | k + 1 => cnTo L k + (L.getD k ⟨0, 0⟩).c
theorem cnTo_succ {L : List Ms} {k : Nat} {s : Ms} (h : L[k]? = some s) : cnTo L (k + 1) = cnTo L k + s.c := by simp [cnTo, h]
theorem cnTo_bd {L : List Ms} (h : L.all isMs = true) : ∀ k, k ≤ L.length → 0 ≤ cnTo L k ∧ cnTo L k ≤ 12 * k
  | 0, _ => by simp [cnTo]
  | k + 1, hk => by
    have ih := cnTo_bd h k (by omega)
    obtain ⟨s, hs⟩ := some_of_lt (L := L) (k := k) (by omega)
    have hg := isMs_iff.1 (List.all_eq_true.1 h s (List.mem_of_getElem? hs))
    rw [cnTo_succ hs]
    omega
def lasts (n t : Int) : Int := 60000 * n / t
theorem lasts_bd {n t : Int} (h0 : 0 ≤ n) (h1 : n ≤ 12) (ht : 40 ≤ t) : 0 ≤ lasts n t ∧ lasts n t ≤ 720000 := by
  have h2 := IntWalk.tdiv_le (60000 * n) t (by omega) (by omega)
  unfold lasts
  omega
/-- The time of a count, from a measure on. -/
def muT : List Ms → Int → Int
  | [], _ => 0
  | m :: L, n => if n < m.c then lasts n m.t else lasts m.c m.t + muT L (n - m.c)
theorem muT_drop {L : List Ms} {k : Nat} {s : Ms} (h : L[k]? = some s) (n : Int) : muT (L.drop k) n = if n < s.c then lasts n s.t else lasts s.c s.t + muT (L.drop (k + 1)) (n - s.c) := by
  have hl : k < L.length := (List.getElem?_eq_some_iff.1 h).1
  have e : L[k] = s := (List.getElem?_eq_some_iff.1 h).2
  rw [List.drop_eq_getElem_cons hl, e, muT]
theorem muT_end {L : List Ms} (n : Int) : muT (L.drop L.length) n = 0 := by rw [List.drop_length, muT]
theorem muT_bd : ∀ (L : List Ms) (n : Int), L.all isMs = true → 0 ≤ n → 0 ≤ muT L n ∧ muT L n ≤ 720000 * L.length
  | [], n, _, _ => by simp [muT]
  | m :: L, n, h, h0 => by
    simp only [List.all_cons, Bool.and_eq_true] at h
    have hg := isMs_iff.1 h.1
    rw [muT]
    have b1 := lasts_bd (n := m.c) (t := m.t) (by omega) (by omega) (by omega)
    split
    · have b2 := lasts_bd (n := n) (t := m.t) h0 (by omega) (by omega)
      simp only [List.length_cons]
      omega
    · have ih := muT_bd L (n - m.c) h.2 (by omega)
      simp only [List.length_cons]
      omega

set_option maxRecDepth 100000 in
theorem muMeasure_any (s : Ms) (w : World) : Calls Try.prog 123 #[.agg #[.int .i64 s.c, .int .i64 s.t]] w fun e w' => e = .returned (.bool (isMs s)) ∧ ∃ o, w.alloc o = w' := by
  cases h : inR s.c 1 12
  all_goals
    go_enter Try.func123, Try.ntmps123
    go_wp2_with (go_at_call 103; refine (l1In_any _ _ _ _).mono ?_; rintro e w' ⟨rfl, rfl⟩)
    go_ret
    exact ⟨by simp [isMs, h], _, rfl⟩
set_option maxHeartbeats 800000 in
set_option maxRecDepth 100000 in
theorem muGood_any (A : Option Addr) (c : Nat) (L : List Ms) (w : World) (hm : Mem w A (measures L)) (hl : L.length ≤ 1048576) : Calls Try.prog 120 #[.slice A L.length c] w fun e w' => e = .returned (.bool (musOk L)) ∧ Below w.heap.size w w' := by
  go_enter Try.func120, Try.ntmps120
  go_wp2
  go_loopw [4, 7] (fun _ i wr => ∃ k : Nat, k ≤ L.length ∧ i = .int .i64 k ∧ Below w.heap.size w wr ∧ Hid ((L.take k).all isMs = true)) (fun _ i _ => L.length - (intOf i).toNat)
  case atStart => exact ⟨0, by omega, rfl, Below.refl _ _, all_take_zero _ _⟩
  case round =>
    obtain ⟨k, hk, rfl, hb, H⟩ := hrel
    have hsz := hb.size
    by_cases hlt : k < L.length
    · obtain ⟨s, hs⟩ := some_of_lt hlt
      obtain ⟨b, off, rfl, h1, h2⟩ := (hm.below hb).measure hs
      have hbl : b < wr.heap.size := World.block_lt_of_cell? wr _ h1
      have HS := Lib.hid hs
      clear hs
      cases hg : isMs s
      · go_wp2_with (first | (go_at_call 123; refine (muMeasure_any _ _).mono ?_; rintro e w' ⟨rfl, o, rfl⟩) | (go_at_call 103; refine (l1In_any _ _ _ _).mono ?_; rintro e w' ⟨rfl, rfl⟩))
        go_ret
        exact ⟨ret_bool (by unfold musOk; rw [all_no HS hg]; rfl), by (repeat (first | exact Below.refl _ _ | assumption | (refine Below.alloc ?_ (by first | omega | (simp; done) | (simp; omega)) _) | (refine Below.setCell ?_ (by first | omega | (simp; done) | (simp; omega)) _) | (refine Below.drew ?_) | (refine Below.drewN ?_ _) | (refine Below.next (by assumption) ?_ (by first | omega | (simp; done) | (simp; omega)))))⟩
      · go_wp2_with (first | (go_at_call 123; refine (muMeasure_any _ _).mono ?_; rintro e w' ⟨rfl, o, rfl⟩) | (go_at_call 103; refine (l1In_any _ _ _ _).mono ?_; rintro e w' ⟨rfl, rfl⟩))
        go_roundw
        case rel => exact ⟨k + 1, by omega, by go_num, by (repeat (first | exact Below.refl _ _ | assumption | (refine Below.alloc ?_ (by first | omega | (simp; done) | (simp; omega)) _) | (refine Below.setCell ?_ (by first | omega | (simp; done) | (simp; omega)) _) | (refine Below.drew ?_) | (refine Below.drewN ?_ _) | (refine Below.next (by assumption) ?_ (by first | omega | (simp; done) | (simp; omega))))), all_take_succ H HS hg⟩
        case measure => simp [intOf]; omega
    · go_wp2_with (go_at_call 103; refine (l1In_any _ _ _ _).mono ?_; rintro e w' ⟨rfl, rfl⟩)
      go_ret
      exact ⟨ret_bool (by unfold musOk; rw [all_yes H (by omega)]; rfl), by (repeat (first | exact Below.refl _ _ | assumption | (refine Below.alloc ?_ (by first | omega | (simp; done) | (simp; omega)) _) | (refine Below.setCell ?_ (by first | omega | (simp; done) | (simp; omega)) _) | (refine Below.drew ?_) | (refine Below.drewN ?_ _) | (refine Below.next (by assumption) ?_ (by first | omega | (simp; done) | (simp; omega)))))⟩
set_option maxHeartbeats 800000 in
set_option maxRecDepth 100000 in
theorem IsMusic_any (A : Option Addr) (c : Nat) (L : List Ms) (w : World) (hm : Mem w A (measures L)) (hl : L.length ≤ 1048576) : Calls Try.prog 106 #[.slice A L.length c] w fun e w' => e = .returned (.bool (musOk L)) ∧ Below w.heap.size w w' := by
  go_enter Try.func106, Try.ntmps106
  go_wp2
  go_loopw [4, 7] (fun _ i wr => ∃ k : Nat, k ≤ L.length ∧ i = .int .i64 k ∧ Below w.heap.size w wr ∧ Hid ((L.take k).all isMs = true)) (fun _ i _ => L.length - (intOf i).toNat)
  case atStart => exact ⟨0, by omega, rfl, Below.refl _ _, all_take_zero _ _⟩
  case round =>
    obtain ⟨k, hk, rfl, hb, H⟩ := hrel
    have hsz := hb.size
    by_cases hlt : k < L.length
    · obtain ⟨s, hs⟩ := some_of_lt hlt
      obtain ⟨b, off, rfl, h1, h2⟩ := (hm.below hb).measure hs
      have hbl : b < wr.heap.size := World.block_lt_of_cell? wr _ h1
      have HS := Lib.hid hs
      clear hs
      have hcase : (inR s.c 1 12 = false ∧ Hid (isMs s = false)) ∨ (inR s.c 1 12 = true ∧ inR s.t 40 220 = false ∧ Hid (isMs s = false)) ∨ (inR s.c 1 12 = true ∧ inR s.t 40 220 = true ∧ Hid (isMs s = true)) := by
        cases q1 : inR s.c 1 12
        · exact .inl ⟨rfl, Lib.hid (by simp [isMs, q1])⟩
        · cases q2 : inR s.t 40 220
          · exact .inr (.inl ⟨rfl, rfl, Lib.hid (by simp [isMs, q2])⟩)
          · exact .inr (.inr ⟨rfl, rfl, Lib.hid (by simp [isMs, q1, q2])⟩)
      rcases hcase with ⟨q1, hg⟩ | ⟨q1, q2, hg⟩ | ⟨q1, q2, hg⟩
      · go_wp2_with (go_at_call 78; refine (within_any _ _ _ _).mono ?_; rintro e w' ⟨rfl, rfl⟩)
        go_ret
        exact ⟨ret_bool (by unfold musOk; rw [all_no HS hg.out]; rfl), by (repeat (first | exact Below.refl _ _ | assumption | (refine Below.alloc ?_ (by first | omega | (simp; done) | (simp; omega)) _) | (refine Below.setCell ?_ (by first | omega | (simp; done) | (simp; omega)) _) | (refine Below.drew ?_) | (refine Below.drewN ?_ _) | (refine Below.next (by assumption) ?_ (by first | omega | (simp; done) | (simp; omega)))))⟩
      · go_wp2_with (go_at_call 78; refine (within_any _ _ _ _).mono ?_; rintro e w' ⟨rfl, rfl⟩)
        go_ret
        exact ⟨ret_bool (by unfold musOk; rw [all_no HS hg.out]; rfl), by (repeat (first | exact Below.refl _ _ | assumption | (refine Below.alloc ?_ (by first | omega | (simp; done) | (simp; omega)) _) | (refine Below.setCell ?_ (by first | omega | (simp; done) | (simp; omega)) _) | (refine Below.drew ?_) | (refine Below.drewN ?_ _) | (refine Below.next (by assumption) ?_ (by first | omega | (simp; done) | (simp; omega)))))⟩
      · go_wp2_with (go_at_call 78; refine (within_any _ _ _ _).mono ?_; rintro e w' ⟨rfl, rfl⟩)
        go_roundw
        case rel => exact ⟨k + 1, by omega, by go_num, by (repeat (first | exact Below.refl _ _ | assumption | (refine Below.alloc ?_ (by first | omega | (simp; done) | (simp; omega)) _) | (refine Below.setCell ?_ (by first | omega | (simp; done) | (simp; omega)) _) | (refine Below.drew ?_) | (refine Below.drewN ?_ _) | (refine Below.next (by assumption) ?_ (by first | omega | (simp; done) | (simp; omega))))), all_take_succ H HS hg.out⟩
        case measure => simp [intOf]; omega
    · go_wp2_with (go_at_call 78; refine (within_any _ _ _ _).mono ?_; rintro e w' ⟨rfl, rfl⟩)
      go_ret
      exact ⟨ret_bool (by unfold musOk; rw [all_yes H (by omega)]; rfl), by (repeat (first | exact Below.refl _ _ | assumption | (refine Below.alloc ?_ (by first | omega | (simp; done) | (simp; omega)) _) | (refine Below.setCell ?_ (by first | omega | (simp; done) | (simp; omega)) _) | (refine Below.drew ?_) | (refine Below.drewN ?_ _) | (refine Below.next (by assumption) ?_ (by first | omega | (simp; done) | (simp; omega)))))⟩
set_option maxRecDepth 100000 in
theorem muCounts_any (A : Option Addr) (c : Nat) (L : List Ms) (w : World) (hm : Mem w A (measures L)) (hl : L.length ≤ 40) (hL : L.all isMs = true) : Calls Try.prog 121 #[.slice A L.length c] w fun e w' => e = .returned (.int .i64 (cnTo L L.length)) ∧ Below w.heap.size w w' := by
  have HB := Lib.hid (cnTo_bd hL)
  have HL := Lib.hid hL
  clear hL
  go_enter Try.func121, Try.ntmps121
  go_wp2
  go_loopw [3, 5, 8] (fun sum _ i wr => ∃ (k : Nat) (x : Int), k ≤ L.length ∧ i = .int .i64 k ∧ sum = .int .i64 x ∧ 0 ≤ x ∧ x ≤ 12 * k ∧ Below w.heap.size w wr ∧ Hid (cnTo L k = x)) (fun _ _ i _ => L.length - (intOf i).toNat)
  case atStart => exact ⟨0, 0, by omega, rfl, rfl, by omega, by omega, Below.refl _ _, Lib.hid rfl⟩
  case round =>
    obtain ⟨k, x, hk, rfl, rfl, hx0, hx1, hb, H⟩ := hrel
    have hsz := hb.size
    by_cases hlt : k < L.length
    · obtain ⟨s, hs⟩ := some_of_lt hlt
      obtain ⟨b, off, rfl, h1, h2⟩ := (hm.below hb).measure hs
      have hbl : b < wr.heap.size := World.block_lt_of_cell? wr _ h1
      have hg := isMs_iff.1 (all_at HL.out hs)
      have HST : Hid (cnTo L (k + 1) = x + s.c) := Lib.hid (by rw [cnTo_succ hs, H.out])
      clear hs
      go_wp2
      go_roundw
      case rel => exact ⟨k + 1, x + s.c, by omega, by go_num, rfl, by omega, by omega, by (repeat (first | exact Below.refl _ _ | assumption | (refine Below.alloc ?_ (by first | omega | (simp; done) | (simp; omega)) _) | (refine Below.setCell ?_ (by first | omega | (simp; done) | (simp; omega)) _) | (refine Below.drew ?_) | (refine Below.drewN ?_ _) | (refine Below.next (by assumption) ?_ (by first | omega | (simp; done) | (simp; omega))))), HST⟩
      case measure => simp [intOf]; omega
    · go_wp2
      go_ret
      have e1 : k = L.length := by omega
      subst e1
      exact ⟨ret_int H.out.symm, hb⟩
set_option maxRecDepth 100000 in
theorem countsOf_any (A : Option Addr) (c : Nat) (L : List Ms) (w : World) (hm : Mem w A (measures L)) (hl : L.length ≤ 40) (hL : L.all isMs = true) : Calls Try.prog 107 #[.slice A L.length c] w fun e w' => e = .returned (.int .i64 (cnTo L L.length)) ∧ Below w.heap.size w w' := by
  have HB := Lib.hid (cnTo_bd hL)
  have HL := Lib.hid hL
  clear hL
  go_enter Try.func107, Try.ntmps107
  go_wp2
  go_loopw [3, 5, 8] (fun sum _ i wr => ∃ (k : Nat) (x : Int), k ≤ L.length ∧ i = .int .i64 k ∧ sum = .int .i64 x ∧ 0 ≤ x ∧ x ≤ 12 * k ∧ Below w.heap.size w wr ∧ Hid (cnTo L k = x)) (fun _ _ i _ => L.length - (intOf i).toNat)
  case atStart => exact ⟨0, 0, by omega, rfl, rfl, by omega, by omega, Below.refl _ _, Lib.hid rfl⟩
  case round =>
    obtain ⟨k, x, hk, rfl, rfl, hx0, hx1, hb, H⟩ := hrel
    have hsz := hb.size
    by_cases hlt : k < L.length
    · obtain ⟨s, hs⟩ := some_of_lt hlt
      obtain ⟨b, off, rfl, h1, h2⟩ := (hm.below hb).measure hs
      have hbl : b < wr.heap.size := World.block_lt_of_cell? wr _ h1
      have hg := isMs_iff.1 (all_at HL.out hs)
      have HST : Hid (cnTo L (k + 1) = x + s.c) := Lib.hid (by rw [cnTo_succ hs, H.out])
      clear hs
      go_wp2
      go_roundw
      case rel => exact ⟨k + 1, x + s.c, by omega, by go_num, rfl, by omega, by omega, by (repeat (first | exact Below.refl _ _ | assumption | (refine Below.alloc ?_ (by first | omega | (simp; done) | (simp; omega)) _) | (refine Below.setCell ?_ (by first | omega | (simp; done) | (simp; omega)) _) | (refine Below.drew ?_) | (refine Below.drewN ?_ _) | (refine Below.next (by assumption) ?_ (by first | omega | (simp; done) | (simp; omega))))), HST⟩
      case measure => simp [intOf]; omega
    · go_wp2
      go_ret
      have e1 : k = L.length := by omega
      subst e1
      exact ⟨ret_int H.out.symm, hb⟩
set_option maxRecDepth 100000 in
theorem muLasts_any (n t : Int) (h0 : 0 ≤ n) (h1 : n ≤ 12) (ht : 40 ≤ t) (ht2 : t ≤ 220) (w : World) : Calls Try.prog 122 #[.int .i64 n, .int .i64 t] w fun e w' => e = .returned (.int .i64 (lasts n t)) ∧ w = w' := by
  have hb := lasts_bd h0 h1 ht
  unfold lasts at hb
  have hne : ¬ t = 0 := by omega
  have HD : Hid (lasts n t = 60000 * n / t) := Lib.hid rfl
  go_enter Try.func122, Try.ntmps122
  go_wp2
  go_ret
  exact ⟨ret_int HD.out.symm, rfl⟩
set_option maxHeartbeats 1600000 in
set_option maxRecDepth 100000 in
theorem muTime_any (A : Option Addr) (c : Nat) (L : List Ms) (n : Int) (w : World) (hm : Mem w A (measures L)) (hl : L.length ≤ 40) (hL : L.all isMs = true) (h0 : 0 ≤ n) (hn : n ≤ 480) : Calls Try.prog 110 #[.slice A L.length c, .int .i64 n] w fun e w' => e = .returned (.int .i64 (muT L n)) ∧ Below w.heap.size w w' := by
  have HL := Lib.hid hL
  clear hL
  go_enter Try.func110, Try.ntmps110
  go_wp2
  go_loopw [1, 5, 7, 10] (fun cnt sum _ i wr => ∃ (k : Nat) (x y : Int), k ≤ L.length ∧ i = .int .i64 k ∧ cnt = .int .i64 y ∧ sum = .int .i64 x ∧ 0 ≤ y ∧ y ≤ 480 ∧ 0 ≤ x ∧ x ≤ 720000 * k ∧ Below w.heap.size w wr ∧ Hid (x + muT (L.drop k) y = muT L n)) (fun _ _ _ i _ => L.length - (intOf i).toNat)
  case atStart => exact ⟨0, 0, n, by omega, rfl, rfl, rfl, h0, hn, by omega, by omega, Below.refl _ _, Lib.hid (by simp)⟩
  case round =>
    obtain ⟨k, x, y, hk, rfl, rfl, rfl, hy0, hy1, hx0, hx1, hb, H⟩ := hrel
    have hsz := hb.size
    by_cases hlt : k < L.length
    · obtain ⟨s, hs⟩ := some_of_lt hlt
      obtain ⟨b, off, rfl, e1, e2⟩ := (hm.below hb).measure hs
      have hbl : b < wr.heap.size := World.block_lt_of_cell? wr _ e1
      have hg := isMs_iff.1 (all_at HL.out hs)
      have hst := muT_drop hs y
      rw [hst] at H
      have b1 := lasts_bd (n := s.c) (t := s.t) (by omega) (by omega) (by omega)
      have hne : ¬ s.t = 0 := by omega
      clear hs hst
      by_cases hcmp : y < s.c
      · have b2 := lasts_bd (n := y) (t := s.t) (by omega) (by omega) (by omega)
        have HF : Hid (x + lasts y s.t = muT L n) := Lib.hid (by have := H.out; rwa [if_pos hcmp] at this)
        skip
        go_wp2_with (first | (go_at_call 122; refine (muLasts_any _ _ (by omega) (by omega) (by omega) (by omega) _).mono ?_; rintro e w' ⟨rfl, rfl⟩))
        go_ret
        exact ⟨ret_int HF.out, by (repeat (first | exact Below.refl _ _ | assumption | (refine Below.alloc ?_ (by first | omega | (simp; done) | (simp; omega)) _) | (refine Below.setCell ?_ (by first | omega | (simp; done) | (simp; omega)) _) | (refine Below.drew ?_) | (refine Below.drewN ?_ _) | (refine Below.next (by assumption) ?_ (by first | omega | (simp; done) | (simp; omega)))))⟩
      · have HF : Hid (x + lasts s.c s.t + muT (L.drop (k + 1)) (y - s.c) = muT L n) := Lib.hid (by have := H.out; rw [if_neg hcmp] at this; rw [← this, Int.add_assoc])
        skip
        go_wp2_with (first | (go_at_call 122; refine (muLasts_any _ _ (by omega) (by omega) (by omega) (by omega) _).mono ?_; rintro e w' ⟨rfl, rfl⟩))
        go_roundw
        case rel => exact ⟨k + 1, x + lasts s.c s.t, y - s.c, by omega, by go_num, rfl, rfl, by omega, by omega, by first | omega | (unfold lasts; omega), by first | omega | (unfold lasts; omega), by (repeat (first | exact Below.refl _ _ | assumption | (refine Below.alloc ?_ (by first | omega | (simp; done) | (simp; omega)) _) | (refine Below.setCell ?_ (by first | omega | (simp; done) | (simp; omega)) _) | (refine Below.drew ?_) | (refine Below.drewN ?_ _) | (refine Below.next (by assumption) ?_ (by first | omega | (simp; done) | (simp; omega))))), HF⟩
        case measure => simp [intOf]; omega
    · go_wp2
      go_ret
      have e1 : k = L.length := by omega
      subst e1
      have := H.out
      rw [muT_end, Int.add_zero] at this
      exact ⟨ret_int this, hb⟩
set_option maxHeartbeats 1600000 in
set_option maxRecDepth 100000 in
theorem timeOf_any (A : Option Addr) (c : Nat) (L : List Ms) (n : Int) (w : World) (hm : Mem w A (measures L)) (hl : L.length ≤ 40) (hL : L.all isMs = true) (h0 : 0 ≤ n) (hn : n ≤ 480) : Calls Try.prog 108 #[.slice A L.length c, .int .i64 n] w fun e w' => e = .returned (.int .i64 (muT L n)) ∧ Below w.heap.size w w' := by
  have HL := Lib.hid hL
  clear hL
  go_enter Try.func108, Try.ntmps108
  go_wp2
  go_loopw [1, 5, 7, 10] (fun cnt sum _ i wr => ∃ (k : Nat) (x y : Int), k ≤ L.length ∧ i = .int .i64 k ∧ cnt = .int .i64 y ∧ sum = .int .i64 x ∧ 0 ≤ y ∧ y ≤ 480 ∧ 0 ≤ x ∧ x ≤ 720000 * k ∧ Below w.heap.size w wr ∧ Hid (x + muT (L.drop k) y = muT L n)) (fun _ _ _ i _ => L.length - (intOf i).toNat)
  case atStart => exact ⟨0, 0, n, by omega, rfl, rfl, rfl, h0, hn, by omega, by omega, Below.refl _ _, Lib.hid (by simp)⟩
  case round =>
    obtain ⟨k, x, y, hk, rfl, rfl, rfl, hy0, hy1, hx0, hx1, hb, H⟩ := hrel
    have hsz := hb.size
    by_cases hlt : k < L.length
    · obtain ⟨s, hs⟩ := some_of_lt hlt
      obtain ⟨b, off, rfl, e1, e2⟩ := (hm.below hb).measure hs
      have hbl : b < wr.heap.size := World.block_lt_of_cell? wr _ e1
      have hg := isMs_iff.1 (all_at HL.out hs)
      have hst := muT_drop hs y
      rw [hst] at H
      have b1 := lasts_bd (n := s.c) (t := s.t) (by omega) (by omega) (by omega)
      have hne : ¬ s.t = 0 := by omega
      clear hs hst
      by_cases hcmp : y < s.c
      · have b2 := lasts_bd (n := y) (t := s.t) (by omega) (by omega) (by omega)
        have HF : Hid (x + lasts y s.t = muT L n) := Lib.hid (by have := H.out; rwa [if_pos hcmp] at this)
        unfold lasts at b1 b2
        go_wp2_with fail
        go_ret
        exact ⟨ret_int HF.out, by (repeat (first | exact Below.refl _ _ | assumption | (refine Below.alloc ?_ (by first | omega | (simp; done) | (simp; omega)) _) | (refine Below.setCell ?_ (by first | omega | (simp; done) | (simp; omega)) _) | (refine Below.drew ?_) | (refine Below.drewN ?_ _) | (refine Below.next (by assumption) ?_ (by first | omega | (simp; done) | (simp; omega)))))⟩
      · have HF : Hid (x + lasts s.c s.t + muT (L.drop (k + 1)) (y - s.c) = muT L n) := Lib.hid (by have := H.out; rw [if_neg hcmp] at this; rw [← this, Int.add_assoc])
        unfold lasts at b1
        go_wp2_with fail
        go_roundw
        case rel => exact ⟨k + 1, x + lasts s.c s.t, y - s.c, by omega, by go_num, rfl, rfl, by omega, by omega, by first | omega | (unfold lasts; omega), by first | omega | (unfold lasts; omega), by (repeat (first | exact Below.refl _ _ | assumption | (refine Below.alloc ?_ (by first | omega | (simp; done) | (simp; omega)) _) | (refine Below.setCell ?_ (by first | omega | (simp; done) | (simp; omega)) _) | (refine Below.drew ?_) | (refine Below.drewN ?_ _) | (refine Below.next (by assumption) ?_ (by first | omega | (simp; done) | (simp; omega))))), HF⟩
        case measure => simp [intOf]; omega
    · go_wp2
      go_ret
      have e1 : k = L.length := by omega
      subst e1
      have := H.out
      rw [muT_end, Int.add_zero] at this
      exact ⟨ret_int this, hb⟩
end Go.Proofs.Ytdipmjflgjlfeaa
