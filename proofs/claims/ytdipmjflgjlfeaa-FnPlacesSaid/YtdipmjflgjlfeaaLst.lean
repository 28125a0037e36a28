/-
  Contracts of the functions on lists of spots.
-/
import Derived.Test.YtdipmjflgjlfeaaLeaf
import Derived.Test.YtdipmjflgjlfeaaMem
import Derived.LoopTactic
import Derived.Deep.RegionHeld3
namespace Go.Proofs.Ytdipmjflgjlfeaa
open Go.RowKit

set_option maxRecDepth 100000 in
theorem stList_any (A : Option Addr) (c : Nat) (L : List Sp) (w : World) (hm : Mem w A (spots L)) (hl : L.length ≤ 1048576) : Calls Try.prog 115 #[.slice A L.length c] w fun e w' => e = .returned (.bool (L.all isSp && decide (L.length ≤ 40))) ∧ Below w.heap.size w w' := by
  go_enter Try.func115, Try.ntmps115
  go_wp2
  go_loopw [4, 7] (fun _ i wr => ∃ k : Nat, k ≤ L.length ∧ i = .int .i64 k ∧ Below w.heap.size w wr ∧ Hid ((L.take k).all isSp = true)) (fun _ i _ => L.length - (intOf i).toNat)
  case atStart => exact ⟨0, by omega, rfl, Below.refl _ _, all_take_zero _ _⟩
  case round =>
    obtain ⟨k, hk, rfl, hb, H⟩ := hrel
    have hsz := hb.size
    by_cases hlt : k < L.length
    · obtain ⟨s, hs⟩ := some_of_lt hlt
      obtain ⟨b, off, rfl, h1, h2⟩ := (hm.below hb).spot hs
      have HS := Lib.hid hs
      clear hs
      cases hg : isSp s
      · go_wp2_with (go_at_call 84; refine (stGood_any _ _).mono ?_; rintro e w' ⟨rfl, o, rfl⟩)
        go_ret
        exact ⟨ret_bool (by rw [all_no HS hg]; rfl), (hb.alloc (by omega) _).alloc (by simp; omega) _⟩
      · go_wp2_with (go_at_call 84; refine (stGood_any _ _).mono ?_; rintro e w' ⟨rfl, o, rfl⟩)
        go_roundw
        case rel => exact ⟨k + 1, by omega, by go_num, (hb.alloc (by omega) _).alloc (by simp; omega) _, all_take_succ H HS hg⟩
        case measure => simp [intOf]; omega
    · go_wp2
      go_ret
      exact ⟨ret_bool (by rw [all_yes H (by omega)]; simp; omega), hb⟩

set_option maxRecDepth 100000 in
theorem areSpots_any (A : Option Addr) (c : Nat) (L : List Sp) (w : World) (hm : Mem w A (spots L)) (hl : L.length ≤ 1048576) : Calls Try.prog 114 #[.slice A L.length c] w fun e w' => e = .returned (.bool (L.all isSp && decide (L.length ≤ 40))) ∧ Below w.heap.size w w' := by
  by_cases h40 : 40 < L.length
  · have e : Hid ((L.all isSp && decide (L.length ≤ 40)) = false) := Lib.hid (by simp; omega)
    go_enter Try.func114, Try.ntmps114
    go_wp2
    go_ret
    exact ⟨ret_bool (by rw [e.out]), Below.refl _ _⟩
  have e : Hid (decide (L.length ≤ 40) = true) := Lib.hid (decide_eq_true (by omega))
  go_enter Try.func114, Try.ntmps114
  go_wp2
  go_loopw [4, 10] (fun _ i wr => ∃ k : Nat, k ≤ L.length ∧ i = .int .i64 k ∧ Below w.heap.size w wr ∧ Hid ((L.take k).all isSp = true)) (fun _ i _ => L.length - (intOf i).toNat)
  case atStart => exact ⟨0, by omega, rfl, Below.refl _ _, all_take_zero _ _⟩
  case round =>
    obtain ⟨k, hk, rfl, hb, H⟩ := hrel
    have hsz := hb.size
    by_cases hlt : k < L.length
    · obtain ⟨s, hs⟩ := some_of_lt hlt
      obtain ⟨b, off, rfl, h1, h2⟩ := (hm.below hb).spot hs
      have HS := Lib.hid hs
      clear hs
      cases hg : isSp s
      · go_wp2_with (go_at_call 73; refine (isSpot_any _ _).mono ?_; rintro e w' ⟨rfl, o, rfl⟩)
        go_ret
        exact ⟨ret_bool (by rw [all_no HS hg]; rfl), (hb.alloc (by omega) _).alloc (by simp; omega) _⟩
      · go_wp2_with (go_at_call 73; refine (isSpot_any _ _).mono ?_; rintro e w' ⟨rfl, o, rfl⟩)
        go_roundw
        case rel => exact ⟨k + 1, by omega, by go_num, (hb.alloc (by omega) _).alloc (by simp; omega) _, all_take_succ H HS hg⟩
        case measure => simp [intOf]; omega
    · go_wp2
      go_ret
      exact ⟨ret_bool (by rw [all_yes H (by omega), e.out]; rfl), hb⟩
end Go.Proofs.Ytdipmjflgjlfeaa
