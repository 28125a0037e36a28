/-
  Contracts: places (numbers 0 .. m-1, each once), charts of equal length, delays.
-/
import Derived.Test.YthehcjfljjfnmaaGreatAb
import Derived.Test.YthehcjfljjfnmaaGreatBase
namespace Go.Proofs.YthehcjfljjfnmaaGreat
open Go.RowKit Go.Sort

def plTo (m : Nat) (P : List Int) : Nat → Bool
  | 0 => true
  | k + 1 => plTo m P k && (inR (P.getD k 0) 0 (m - 1) && !has (P.take k) (P.getD k 0))
def plOk (m : Nat) (P : List Int) : Bool := plTo m P P.length && decide (P.length = m)
theorem plTo_mono {m : Nat} {P : List Int} {k : Nat} (h : plTo m P k = false) : ∀ j, k ≤ j → plTo m P j = false
  | 0, hj => by
    have : k = 0 := by omega
    subst this
    exact h
  | j + 1, hj => by
    by_cases e : k = j + 1
    · subst e; exact h
    · rw [plTo, plTo_mono h j (by omega), Bool.false_and]
theorem plTo_no {m : Nat} {P : List Int} {k : Nat} {x : Int} (hx : P[k]? = some x) (h : inR x 0 (m - 1) = false ∨ has (P.take k) x = true) : plOk m P = false := by
  have hk := (List.getElem?_eq_some_iff.1 hx).1
  have : plTo m P (k + 1) = false := by
    rw [plTo, List.getD_eq_getElem?_getD, hx, Option.getD_some]
    rcases h with h | h
    · rw [h]; simp
    · rw [h]; simp
  rw [plOk, plTo_mono this P.length (by omega), Bool.false_and]
theorem plTo_yes {m : Nat} {P : List Int} {k : Nat} {x : Int} (H : plTo m P k = true) (hx : P[k]? = some x) (h : inR x 0 (m - 1) = true) (h2 : has (P.take k) x = false) : plTo m P (k + 1) = true := by
  rw [plTo, H, List.getD_eq_getElem?_getD, hx, Option.getD_some, h, h2]
  rfl
theorem plTo_at {m : Nat} {P : List Int} {x : Int} : ∀ {n k : Nat}, plTo m P n = true → k < n → P[k]? = some x → inR x 0 (m - 1) = true ∧ has (P.take k) x = false
  | 0, k, _, h, _ => by omega
  | n + 1, k, H, h, hx => by
    rw [plTo, Bool.and_eq_true] at H
    by_cases e : k = n
    · subst e
      have h2 := H.2
      rw [List.getD_eq_getElem?_getD, hx, Option.getD_some, Bool.and_eq_true, Bool.not_eq_true'] at h2
      exact h2
    · exact plTo_at H.1 (by omega) hx
theorem plOk_iff {m : Nat} {P : List Int} : plOk m P = true ↔ plTo m P P.length = true ∧ P.length = m := by simp [plOk]
theorem pl_nat {m : Nat} {P : List Int} {k : Nat} {x : Int} (h : plOk m P = true) (hx : P[k]? = some x) : ∃ y : Nat, x = (y : Int) ∧ y < m := by
  have h1 := inR_iff.1 (plTo_at (plOk_iff.1 h).1 (List.getElem?_eq_some_iff.1 hx).1 hx).1
  exact ⟨x.toNat, by omega, by omega⟩

set_option maxHeartbeats 800000 in
set_option maxRecDepth 100000 in
theorem maPlaces_any (A : Option Addr) (c : Nat) (P : List Int) (m : Nat) (w : World) (hp : Mem w A (ints P)) (hl : P.length ≤ 1048576) (hm : m ≤ 1048576) (hpc : P.length ≤ c) : Calls Tryz.prog 97 #[.slice A P.length c, .int .i64 m] w fun e w' => e = .returned (.bool (plOk m P)) ∧ w = w' := by
  have e1 : Hid (plTo m P P.length = true → plOk m P = decide (P.length = m)) := Lib.hid (fun h => by simp [plOk, h])
  go_enter Tryz.func97, Tryz.ntmps97
  go_wp2
  go_loop [5, 6, 9] (fun _ _ i => ∃ k : Nat, k ≤ P.length ∧ i = .int .i64 k ∧ Hid (plTo m P k = true)) (fun _ _ i => P.length - (intOf i).toNat)
  case atStart => exact ⟨0, by omega, rfl, Lib.hid rfl⟩
  case round =>
    obtain ⟨k, hk, rfl, H⟩ := hrel
    by_cases hlt : k < P.length
    · obtain ⟨x, hx⟩ := some_of_lt hlt
      obtain ⟨b, off, rfl, h1⟩ := hp.int hx
      have HX := Lib.hid hx
      clear hx
      have hk0 : (0 : Int) ≤ (k : Int) := by omega
      have hkc : (k : Int) ≤ (c : Int) := by omega
      cases hh : inR x 0 (m - 1)
      · have HH := Lib.hid hh
        clear hh
        go_wp2_with (go_at_call 45; refine (l1In_any _ _ _ _).mono ?_; rintro e w' ⟨he, rfl⟩; rw [HH.out] at he; subst he)
        go_ret
        exact ⟨ret_bool (by rw [plTo_no HX.out (.inl HH.out)]), rfl⟩
      · have HH := Lib.hid hh
        clear hh
        cases hg : has (P.take k) x
        all_goals
          have HG := Lib.hid hg
          clear hg
          go_wp2_with (first | (go_at_call 45; refine (l1In_any _ _ _ _).mono ?_; rintro e w' ⟨he, rfl⟩; rw [HH.out] at he; subst he) | (go_at_call 107; refine (l1HasK_any _ _ P k hk x _ hp hl).mono ?_; rintro e w' ⟨he, rfl⟩; rw [HG.out] at he; subst he))
        · go_round
          case rel => exact ⟨k + 1, by omega, by go_num, Lib.hid (plTo_yes H.out HX.out HH.out HG.out)⟩
          case measure => simp [intOf]; omega
        · go_ret
          exact ⟨ret_bool (by rw [plTo_no HX.out (.inr HG.out)]), rfl⟩
    · have e2 : k = P.length := by omega
      subst e2
      have e3 := Lib.hid (e1.out H.out)
      go_wp2_with fail
      go_ret
      exact ⟨ret_bool (by rw [e3.out]; first | rfl | (rw [decide_eq_decide]; omega) | (rw [Bool.eq_iff_iff]; simp; omega)), rfl⟩

theorem pow_lt40 {U m : Nat} (h : U < 2 ^ m) (hm : m ≤ 40) : U < 4611686018427387904 := by
  have := pow_le hm
  omega
set_option maxHeartbeats 800000 in
set_option maxRecDepth 100000 in
theorem isMatching_any (A : Option Addr) (c : Nat) (P : List Int) (m : Nat) (w : World) (hp : Mem w A (ints P)) (hl : P.length ≤ 1048576) (hm : m ≤ 40) : Calls Tryz.prog 95 #[.slice A P.length c, .int .i64 m] w fun e w' => e = .returned (.bool (plOk m P)) ∧ w = w' := by
  have e1 : Hid (plTo m P P.length = true → plOk m P = decide (P.length = m)) := Lib.hid (fun h => by simp [plOk, h])
  go_enter Tryz.func95, Tryz.ntmps95
  go_wp2
  go_loop [5, 7, 10] (fun u _ i => ∃ k U : Nat, k ≤ P.length ∧ i = .int .i64 k ∧ u = .int .i64 U ∧ Hid (U < 2 ^ m) ∧ Hid (∀ j : Nat, U.testBit j = has (P.take k) (j : Int)) ∧ Hid (plTo m P k = true)) (fun _ _ i => P.length - (intOf i).toNat)
  case atStart => exact ⟨0, 0, by omega, rfl, rfl, Lib.hid (Nat.two_pow_pos m), Lib.hid (fun j => by simp [has]), Lib.hid rfl⟩
  case round =>
    obtain ⟨k, U, hk, rfl, rfl, HU, HB, H⟩ := hrel
    by_cases hlt : k < P.length
    · obtain ⟨x, hx⟩ := some_of_lt hlt
      obtain ⟨b, off, rfl, h1⟩ := hp.int hx
      have HX := Lib.hid hx
      clear hx
      cases hh : inR x 0 (m - 1)
      · have HH := Lib.hid hh
        clear hh
        go_wp2_with (go_at_call 43; refine (within_any _ _ _ _).mono ?_; rintro e w' ⟨he, rfl⟩; rw [HH.out] at he; subst he)
        go_ret
        exact ⟨ret_bool (by rw [plTo_no HX.out (.inl HH.out)]), rfl⟩
      · have HH := Lib.hid hh
        have hr := inR_iff.1 hh
        obtain ⟨y, rfl⟩ : ∃ y : Nat, x = (y : Int) := ⟨x.toNat, by omega⟩
        have hy : y < m := by omega
        clear hh hr
        have hU := pow_lt40 HU.out hm
        have hor := bit_or (x := y) hU (by omega)
        have hy64 : ¬ (64 ≤ y) := by omega
        cases hg : has (P.take k) (y : Int)
        · have HG := Lib.hid hg
          have hbit := bit_no (x := y) hU ((HB.out y).trans hg)
          clear hg
          go_wp2_with (go_at_call 43; refine (within_any _ _ _ _).mono ?_; rintro e w' ⟨he, rfl⟩; rw [HH.out] at he; subst he)
          go_round
          case rel => exact ⟨k + 1, U ||| 2 ^ y, by omega, by go_num, by rw [← hor], Lib.hid (or_lt HU.out hy), Lib.hid (fun j => by
            rw [or_test, HB.out, List.take_add_one, HX.out, Bool.eq_iff_iff]
            simp only [Bool.or_eq_true, has_iff, decide_eq_true_eq, List.mem_append, Option.toList_some, List.mem_singleton]
            exact or_congr Iff.rfl (by omega)), Lib.hid (plTo_yes H.out HX.out HH.out HG.out)⟩
          case measure => simp [intOf]; omega
        · have HG := Lib.hid hg
          have hbit := bit_yes (x := y) hU ((HB.out y).trans hg)
          clear hg
          go_wp2_with (go_at_call 43; refine (within_any _ _ _ _).mono ?_; rintro e w' ⟨he, rfl⟩; rw [HH.out] at he; subst he)
          go_ret
          exact ⟨ret_bool (by rw [plTo_no HX.out (.inr HG.out)]), rfl⟩
    · have e2 : k = P.length := by omega
      subst e2
      have e3 := Lib.hid (e1.out H.out)
      go_wp2_with fail
      go_ret
      exact ⟨ret_bool (by rw [e3.out]; first | rfl | (rw [decide_eq_decide]; omega) | (rw [Bool.eq_iff_iff]; simp; omega)), rfl⟩

end Go.Proofs.YthehcjfljjfnmaaGreat
