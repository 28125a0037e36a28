/-
  Contracts of the laws' own small functions on lists of spots: copied, compared, marked.
-/
import Derived.Test.YtbgbcajcajaocaaCpy
import Derived.Lib.QuietBelow
namespace Go.Proofs.Ytbgbcajcajaocaa
open Go.RowKit Go.Sort

theorem info_spot : (Try.prog.info? 26).map (fun i => (i.zero, i.size, i.bytes)) = some (some (.agg #[.int .i64 0, .int .i64 0]), 2, 16) := by kernel_rfl

set_option maxRecDepth 100000 in
theorem toSpotS_any (A : Option Addr) (c : Nat) (L : List Sp) (w : World) (hm : Mem w A (spots L)) (hl : L.length ≤ 1048576) : Calls Try.prog 44 #[.slice A L.length c] w fun e w' =>
    ∃ A' c', e = .returned (.slice A' L.length c') ∧ w'.ownsRow w.heap.size 26 2 (.slice A' L.length c') L.length (spots L) ∧ Below w.heap.size w w' := by
  obtain ⟨i0, hi, hz0, hz1, hz2⟩ := info_parts info_spot
  go_enter Try.func44, Try.ntmps44
  go_wp2_with (at_make; refine wpList_make_full _ rfl _ _ 59 rfl w.heap.size 26 i0 (.agg #[.int .i64 0, .int .i64 0]) 2 Try.underlying59 hi hz0 hz1 _ _ _ _ L.length rfl rfl rfl rfl ?b2 ?b3 (Nat.le_refl _) ?_)
  case b2 => rw [hz2]; omega
  case b3 => unfold maxLen; omega
  intro w0 hown0 hgrow0
  have hb0 := grown_below hgrow0
  have e0 : Hid ((madeCells #[.int .i64 0, .int .i64 0] (L.length * 2)).toList = spots (part L ⟨0, 0⟩ 0)) := Lib.hid (by rw [part_zero]; exact made_flat (fun s : Sp => [Value.int .i64 s.x, Value.int .i64 s.y]) 2 ⟨0, 0⟩ (by omega) (fun _ => rfl) L.length)
  go_wp2
  go_loopw [4] (fun i wr => ∃ k : Nat, k ≤ L.length ∧ i = .int .i64 k ∧ wr.ownsRow w.heap.size 26 2 (.slice (some ⟨w.heap.size, 0, none⟩) L.length L.length) L.length (spots (part L ⟨0, 0⟩ k)) ∧ Below w.heap.size w wr) (fun i _ => L.length - (intOf i).toNat)
  case atStart => exact ⟨0, by omega, rfl, e0.out ▸ hown0, hb0⟩
  case round =>
    obtain ⟨k, hk, rfl, hown, hb⟩ := hrel
    by_cases hlt : k < L.length
    · obtain ⟨s, hs⟩ := some_of_lt hlt
      obtain ⟨b, off, rfl, h1, h2⟩ := (hm.below hb).spot hs
      have hpl : (spots (part L ⟨0, 0⟩ k)).length = L.length * 2 := by rw [spots_len, part_len L _ hk]
      obtain ⟨old, hold⟩ := some_of_lt (L := spots (part L ⟨0, 0⟩ k)) (k := k * 2) (by omega)
      obtain ⟨old2, hold2⟩ := some_of_lt (L := spots (part L ⟨0, 0⟩ k)) (k := k * 2 + 1) (by omega)
      have H1 := Lib.hid hold
      have H2 := Lib.hid hold2
      have HS := Lib.hid hs
      have HO := Lib.hid hown
      clear hs hold hold2 hpl hown
      go_wp2_with fail
      refine (toSpot_any s wr).mono ?_
      rintro e w1 ⟨rfl, hq⟩
      have ho := own_below HO.out hq
      have hc1 := (ho.cellAt (k * 2) (by omega)).trans H1.out
      have hc2 := (ho.cellAt (k * 2 + 1) (by omega)).trans H2.out
      have hf1 := ho.frozenAt (k * 2)
      have hf2 := ho.frozenAt (k * 2 + 1)
      have st1 := (ho.stored (k * 2) (.int .i64 s.x)).1
      have st2 := (st1.stored (k * 2 + 1) (.int .i64 s.y)).1
      rw [← spots_set, part_set HS.out] at st2
      have HST := Lib.hid st2
      have hq' := Lib.hid hq
      clear st1 st2 ho hq
      go_wp2
      go_roundw
      case rel => exact ⟨k + 1, by omega, by go_num, HST.out, ((hb.trans (hq'.out.mono hb.size)).setCell (Nat.le_refl _) _).setCell (Nat.le_refl _) _⟩
      case measure => simp [intOf]; omega
    · go_wp2
      go_ret
      have : part L ⟨0, 0⟩ k = L := part_all L _ (by omega)
      rw [this] at hown
      exact ⟨_, _, rfl, hown, hb⟩

set_option maxRecDepth 100000 in
theorem eqSpotS_any (A B : Option Addr) (c d : Nat) (L M : List Sp) (w : World) (hm : Mem w A (spots L)) (hn : Mem w B (spots M)) (hl : L.length ≤ 1048576) (_ : M.length ≤ 1048576) : Calls Try.prog 50 #[.slice A L.length c, .slice B M.length d] w fun e w' =>
    e = .returned (.bool (decide (L = M))) ∧ Below w.heap.size w w' := by
  by_cases hlen : L.length = M.length
  · have hL : ((L.length : Int) != M.length) = false := by simp [hlen]
    have HL := Lib.hid hlen
    clear hlen
    go_enter Try.func50, Try.ntmps50
    go_wp2
    go_loopw [5] (fun i wr => ∃ k : Nat, k ≤ L.length ∧ i = .int .i64 k ∧ Below w.heap.size w wr ∧ Hid (L.take k = M.take k)) (fun i _ => L.length - (intOf i).toNat)
    case atStart => exact ⟨0, by omega, rfl, Below.refl _ _, Lib.hid (by simp)⟩
    case round =>
      obtain ⟨k, hk, rfl, hb, H⟩ := hrel
      by_cases hlt : k < L.length
      · obtain ⟨s, hs⟩ := some_of_lt hlt
        obtain ⟨t, ht⟩ := some_of_lt (L := M) (k := k) (by have := HL.out; omega)
        obtain ⟨b, off, rfl, h1, h2⟩ := (hm.below hb).spot hs
        obtain ⟨b2, off2, rfl, h3, h4⟩ := (hn.below hb).spot ht
        have hlt2 : k < M.length := by have := HL.out; omega
        have HS := Lib.hid hs
        have HT := Lib.hid ht
        clear hs ht
        have k1 := cell_regrown h1
        have k2 := cell_regrown h2
        have k3 := cell_regrown h3
        have k4 := cell_regrown h4
        have cE : ∀ dd os, Calls Try.prog 48 #[.agg #[.int .i64 s.x, .int .i64 s.y], .agg #[.int .i64 t.x, .int .i64 t.y]] (grow (redrawn wr dd) os) fun e w'' => e = .returned (.bool (decide (s = t))) ∧ ∃ p : Regrown, w'' = grow (redrawn wr p.d) p.os :=
          fun dd os => Calls.regrown_of ((eqSpot_any s t _).mono fun e w' ⟨he, o1, o2, hw⟩ => ⟨he, by subst hw; exact ((Below.refl _ _).alloc (Nat.le_refl _) _).alloc (by simp) _⟩)
        by_cases hst : s = t
        · have e1 : decide (s = t) = true := by simpa using hst
          have HST := Lib.hid hst
          clear hst
          go_wp2
          refine wp_region_quiet_below (by kernel_rfl) (by kernel_rfl) ?_
          repeat (quiet_step (exact cE _ _))
          refine wpQuiet_nil ?_
          intro _ hw'
          obtain ⟨⟨dq, osq⟩, hw''⟩ := hw'
          subst hw''
          have hb2 := below_regrown wr dq osq
          go_wp2
          go_roundw
          case rel => exact ⟨k + 1, by omega, by go_num, hb.trans (hb2.mono hb.size), Lib.hid (by rw [List.take_add_one, List.take_add_one, H.out, HS.out, HT.out, HST.out])⟩
          case measure => simp [intOf]; omega
        · have e1 : decide (s = t) = false := by simpa using hst
          go_wp2
          refine wp_region_quiet_below (by kernel_rfl) (by kernel_rfl) ?_
          repeat (quiet_step (exact cE _ _))
          refine wpQuiet_nil ?_
          intro _ hw'
          obtain ⟨⟨dq, osq⟩, hw''⟩ := hw'
          subst hw''
          have hb2 := below_regrown wr dq osq
          go_wp2
          go_ret
          refine ⟨ret_bool ?_, hb.trans (hb2.mono hb.size)⟩
          have : L ≠ M := fun h => by rw [h] at HS; have := HS.out; rw [HT.out] at this; exact hst (Option.some.inj this).symm
          simp [this]
      · go_wp2
        go_ret
        refine ⟨ret_bool ?_, hb⟩
        have h1 := H.out
        rw [List.take_of_length_le (by omega), List.take_of_length_le (by have := HL.out; omega)] at h1
        simp [h1]
  · have hL : ((L.length : Int) != M.length) = true := by simp; omega
    have : Hid (decide (L = M) = false) := Lib.hid (decide_eq_false (fun h => hlen (by rw [h])))
    go_enter Try.func50, Try.ntmps50
    go_wp2
    go_ret
    exact ⟨ret_bool this.out.symm, Below.refl _ _⟩

set_option maxRecDepth 100000 in
theorem markSpotS_any (base : Nat) (A : Option Addr) (c : Nat) (L : List Sp) (k0 : Int) (w : World) (hown : w.ownsRow base 26 2 (.slice A L.length c) L.length (spots L)) (hl : L.length ≤ 1048576) (h0 : 0 ≤ k0) (h1 : k0 ≤ 1000000000) : Calls Try.prog 51 #[.slice A L.length c, .int .i64 k0] w fun e w' =>
    e = .returned (.int .i64 (k0 + 2 * L.length)) ∧ w'.ownsRow base 26 2 (.slice A L.length c) L.length (spots (runS k0 L.length)) ∧ w.grownBy w' (Value.slice A L.length c).ownBlock := by
  go_enter Try.func51, Try.ntmps51
  go_wp2
  go_loopw [1, 5] (fun kk i wr => ∃ j : Nat, j ≤ L.length ∧ i = .int .i64 j ∧ kk = .int .i64 (k0 + 2 * j) ∧ wr.ownsRow base 26 2 (.slice A L.length c) L.length (spots (markedS L k0 j)) ∧ w.grownBy wr (Value.slice A L.length c).ownBlock) (fun _ i _ => L.length - (intOf i).toNat)
  case atStart => exact ⟨0, by omega, rfl, by simp, (markedS_zero L k0).symm ▸ hown, grown_refl _ _⟩
  case round =>
    obtain ⟨j, hj, rfl, rfl, ho, hg⟩ := hrel
    by_cases hlt : j < L.length
    · obtain ⟨g, rfl, hg1, hg2⟩ := own_addr ho (by omega)
      have hpl : (spots (markedS L k0 j)).length = L.length * 2 := by rw [spots_len, markedS_len L k0 hj]
      obtain ⟨old, hold⟩ := some_of_lt (L := spots (markedS L k0 j)) (k := j * 2) (by omega)
      obtain ⟨old2, hold2⟩ := some_of_lt (L := spots (markedS L k0 j)) (k := j * 2 + 1) (by omega)
      have hc1 := (ho.cellAt (j * 2) (by omega)).trans hold
      have hc2 := (ho.cellAt (j * 2 + 1) (by omega)).trans hold2
      have hf1 := ho.frozenAt (j * 2)
      have hf2 := ho.frozenAt (j * 2 + 1)
      have st1 := ho.stored (j * 2) (.int .i64 (k0 + 2 * j))
      have st2 := st1.1.stored (j * 2 + 1) (.int .i64 (k0 + 2 * j + 1))
      have st3 := st2.1
      rw [← spots_set _ j ⟨k0 + 2 * j, k0 + 2 * j + 1⟩, markedS_set hlt] at st3
      have HST := Lib.hid st3
      have HG := Lib.hid (grown_trans hg (grown_trans st1.2 st2.2))
      clear hold hold2 hpl st1 st2 st3 ho hg
      go_wp2
      go_roundw
      case rel => exact ⟨j + 1, by omega, by go_num, by go_num, HST.out, HG.out⟩
      case measure => simp [intOf]; omega
    · go_wp2
      go_ret
      have e1 : j = L.length := by omega
      subst e1
      rw [markedS_all L k0 (Nat.le_refl _) (Nat.le_refl _)] at ho
      exact ⟨rfl, ho, hg⟩
end Go.Proofs.Ytbgbcajcajaocaa
