/-
  Contracts of the laws' own small functions on lists of numbers: copied, compared, marked, held.
-/
import Derived.Test.YtbgbcajcajaocaaLeaf
import Derived.Test.YtbgbcajcajaocaaMem
import Derived.LoopTactic
import Derived.OwnWalk
import Derived.Deep.RegionHeld3
namespace Go.Proofs.Ytbgbcajcajaocaa
open Go.RowKit

theorem info_int : (Try.prog.info? 3).map (fun i => (i.zero, i.size, i.bytes)) = some (some (.int .i64 0), 1, 8) := by kernel_rfl

set_option maxRecDepth 100000 in
theorem toIntS_any (A : Option Addr) (c : Nat) (L : List Int) (w : World) (hm : Mem w A (ints L)) (hl : L.length ≤ 1048576) : Calls Try.prog 9 #[.slice A L.length c] w fun e w' =>
    ∃ A' c', e = .returned (.slice A' L.length c') ∧ w'.ownsRow w.heap.size 3 1 (.slice A' L.length c') L.length (ints L) ∧ Below w.heap.size w w' := by
  obtain ⟨i0, hi, hz0, hz1, hz2⟩ := info_parts info_int
  go_enter Try.func9, Try.ntmps9
  go_wp2_with (at_make; refine wpList_make_full _ rfl _ _ 23 rfl w.heap.size 3 i0 (.int .i64 0) 1 Try.underlying23 hi hz0 hz1 _ _ _ _ L.length rfl rfl rfl rfl ?b2 ?b3 (Nat.le_refl _) ?_)
  case b2 => rw [hz2]; omega
  case b3 => unfold maxLen; omega
  intro w0 hown0 hgrow0
  have hb0 := grown_below hgrow0
  have e0 : Hid ((madeCells #[Value.int .i64 0] L.length).toList = ints (part L 0 0)) := Lib.hid (by rw [part_zero]; have := made_flat (fun n : Int => [Value.int .i64 n]) 1 0 (by omega) (fun _ => rfl) L.length; rwa [Nat.mul_one] at this)
  go_wp2
  go_loopw [4] (fun i wr => ∃ k : Nat, k ≤ L.length ∧ i = .int .i64 k ∧ wr.ownsRow w.heap.size 3 1 (.slice (some ⟨w.heap.size, 0, none⟩) L.length L.length) L.length (ints (part L 0 k)) ∧ Below w.heap.size w wr) (fun i _ => L.length - (intOf i).toNat)
  case atStart => exact ⟨0, by omega, rfl, e0.out ▸ hown0, hb0⟩
  case round =>
    obtain ⟨k, hk, rfl, hown, hb⟩ := hrel
    by_cases hlt : k < L.length
    · obtain ⟨s, hs⟩ := some_of_lt hlt
      obtain ⟨b, off, rfl, h1⟩ := (hm.below hb).int hs
      have hpl : (ints (part L 0 k)).length = L.length := by rw [ints_len, part_len L 0 hk]
      obtain ⟨old, hold⟩ := some_of_lt (L := ints (part L 0 k)) (k := k) (by omega)
      have hcell := (hown.cellAt k (by omega)).trans hold
      have hfz := hown.frozenAt k
      have HS := Lib.hid hs
      clear hs hold hpl
      go_wp2
      go_roundw
      case rel =>
        refine ⟨k + 1, by omega, by go_num, ?_, hb.setCell (Nat.le_refl _) _⟩
        have := (hown.stored k (.int .i64 s)).1
        rwa [← ints_set, part_set HS.out] at this
      case measure => simp [intOf]; omega
    · go_wp2
      go_ret
      have : part L 0 k = L := part_all L 0 (by omega)
      rw [this] at hown
      exact ⟨_, _, rfl, hown, hb⟩

set_option maxRecDepth 100000 in
theorem eqIntS_any (A B : Option Addr) (c d : Nat) (L M : List Int) (w : World) (hm : Mem w A (ints L)) (hn : Mem w B (ints M)) (hl : L.length ≤ 1048576) (_ : M.length ≤ 1048576) : Calls Try.prog 13 #[.slice A L.length c, .slice B M.length d] w fun e w' =>
    e = .returned (.bool (decide (L = M))) ∧ Below w.heap.size w w' := by
  by_cases hlen : L.length = M.length
  · have hL : ((L.length : Int) != M.length) = false := by simp [hlen]
    have HL := Lib.hid hlen
    clear hlen
    go_enter Try.func13, Try.ntmps13
    go_wp2
    go_loopw [5] (fun i wr => ∃ k : Nat, k ≤ L.length ∧ i = .int .i64 k ∧ Below w.heap.size w wr ∧ Hid (L.take k = M.take k)) (fun i _ => L.length - (intOf i).toNat)
    case atStart => exact ⟨0, by omega, rfl, Below.refl _ _, Lib.hid (by simp)⟩
    case round =>
      obtain ⟨k, hk, rfl, hb, H⟩ := hrel
      by_cases hlt : k < L.length
      · obtain ⟨s, hs⟩ := some_of_lt hlt
        obtain ⟨t, ht⟩ := some_of_lt (L := M) (k := k) (by have := HL.out; omega)
        obtain ⟨b, off, rfl, h1⟩ := (hm.below hb).int hs
        obtain ⟨b2, off2, rfl, h2⟩ := (hn.below hb).int ht
        have hlt2 : k < M.length := by have := HL.out; omega
        have HS := Lib.hid hs
        have HT := Lib.hid ht
        clear hs ht
        by_cases hst : s = t
        · subst hst
          go_wp2
          go_quiet (fail)
          go_wp2
          go_roundw
          case rel => exact ⟨k + 1, by omega, by go_num, Below.drewN hb _, Lib.hid (by rw [List.take_add_one, List.take_add_one, H.out, HS.out, HT.out])⟩
          case measure => simp [intOf]; omega
        · have e1 : (s != t) = true := by simpa using hst
          go_wp2
          go_quiet (fail)
          go_wp2
          go_ret
          refine ⟨ret_bool ?_, Below.drewN hb _⟩
          have : L ≠ M := fun h => by rw [h] at HS; have := HS.out; rw [HT.out] at this; exact hst (Option.some.inj this).symm
          simp [this]
      · go_wp2
        go_ret
        refine ⟨ret_bool ?_, hb⟩
        have h1 := H.out
        rw [List.take_of_length_le (by omega), List.take_of_length_le (by have := HL.out; omega)] at h1
        simp [h1]
  · have hL : ((L.length : Int) != M.length) = true := by simp; omega
    have : Hid (decide (L = M) = false) := Lib.hid (decide_eq_false (fun h => hlen (by rw [h])))
    go_enter Try.func13, Try.ntmps13
    go_wp2
    go_ret
    exact ⟨ret_bool this.out.symm, Below.refl _ _⟩

set_option maxRecDepth 100000 in
theorem markIntS_any (base : Nat) (A : Option Addr) (c : Nat) (L : List Int) (k0 : Int) (w : World) (hown : w.ownsRow base 3 1 (.slice A L.length c) L.length (ints L)) (hl : L.length ≤ 1048576) (h0 : 0 ≤ k0) (h1 : k0 ≤ 1000000000) : Calls Try.prog 15 #[.slice A L.length c, .int .i64 k0] w fun e w' =>
    e = .returned (.int .i64 (k0 + L.length)) ∧ w'.ownsRow base 3 1 (.slice A L.length c) L.length (ints (run k0 L.length)) ∧ w.grownBy w' (Value.slice A L.length c).ownBlock := by
  go_enter Try.func15, Try.ntmps15
  go_wp2
  go_loopw [1, 5] (fun kk i wr => ∃ j : Nat, j ≤ L.length ∧ i = .int .i64 j ∧ kk = .int .i64 (k0 + j) ∧ wr.ownsRow base 3 1 (.slice A L.length c) L.length (ints (marked L k0 j)) ∧ w.grownBy wr (Value.slice A L.length c).ownBlock) (fun _ i _ => L.length - (intOf i).toNat)
  case atStart => exact ⟨0, by omega, rfl, by simp, (marked_zero L k0).symm ▸ hown, grown_refl _ _⟩
  case round =>
    obtain ⟨j, hj, rfl, rfl, ho, hg⟩ := hrel
    by_cases hlt : j < L.length
    · obtain ⟨g, rfl, hg1, hg2⟩ := own_addr ho (by omega)
      have hpl : (ints (marked L k0 j)).length = L.length := by rw [ints_len, marked_len L k0 hj]
      obtain ⟨old, hold⟩ := some_of_lt (L := ints (marked L k0 j)) (k := j) (by omega)
      have hcell := (ho.cellAt j (by omega)).trans hold
      have hfz := ho.frozenAt j
      have hst := ho.stored j (.int .i64 (k0 + j))
      rw [← ints_set, marked_set hlt] at hst
      have HST := Lib.hid hst
      clear hold hpl hst ho
      go_wp2
      go_roundw
      case rel => exact ⟨j + 1, by omega, by go_num, by go_num, HST.out.1, grown_trans hg HST.out.2⟩
      case measure => simp [intOf]; omega
    · go_wp2
      go_ret
      have e1 : j = L.length := by omega
      subst e1
      rw [marked_all L k0 (Nat.le_refl _) (Nat.le_refl _)] at ho
      exact ⟨rfl, ho, hg⟩

set_option maxRecDepth 100000 in
theorem heldIntS_any (A : Option Addr) (n c : Nat) (k0 : Int) (w : World) (hm : Mem w A (ints (run k0 n))) (hl : n ≤ 1048576) (h0 : 0 ≤ k0) (h1 : k0 ≤ 1000000000) : Calls Try.prog 25 #[.slice A n c, .int .i64 k0] w fun e w' =>
    e = .returned (.int .i64 (k0 + n)) ∧ w = w' := by
  go_enter Try.func25, Try.ntmps25
  go_wp2
  go_loop [1, 5] (fun kk i => ∃ j : Nat, j ≤ n ∧ i = .int .i64 j ∧ kk = .int .i64 (k0 + j)) (fun _ i => n - (intOf i).toNat)
  case atStart => exact ⟨0, by omega, rfl, by simp⟩
  case round =>
    obtain ⟨j, hj, rfl, rfl⟩ := hrel
    by_cases hlt : j < n
    · obtain ⟨b, off, rfl, hc⟩ := hm.int (run_at hlt)
      go_wp2
      go_round
      case rel => exact ⟨j + 1, by omega, by go_num, by go_num⟩
      case measure => simp [intOf]; omega
    · go_wp2
      go_ret
      exact ⟨ret_int (by omega), rfl⟩

set_option maxRecDepth 100000 in
theorem szSpotS_yes (A : Option Addr) (n c : Nat) (left : Int) (w : World) (h : (n : Int) ≤ left) (h0 : 0 ≤ left) (h1 : left ≤ 1048576) : Calls Try.prog 40 #[.slice A n c, .int .i64 left] w fun e w' =>
    e = .returned (.int .i64 (left - n)) ∧ w = w' := by
  go_enter Try.func40, Try.ntmps40
  go_wp2
  go_ret
  exact ⟨rfl, rfl⟩
set_option maxRecDepth 100000 in
theorem szSpotS_no (A : Option Addr) (n c : Nat) (left : Int) (w : World) (h : left < (n : Int)) (hn : n ≤ 9223372036854775807) (h0 : 0 ≤ left) (h1 : left ≤ 1048576) : Calls Try.prog 40 #[.slice A n c, .int .i64 left] w fun e w' =>
    e = .returned (.int .i64 (-1)) ∧ w = w' := by
  go_enter Try.func40, Try.ntmps40
  go_wp2
  go_ret
  exact ⟨rfl, rfl⟩
end Go.Proofs.Ytbgbcajcajaocaa
