/-
  Measure: a struct of 2 numbers; lists of it as cells; the laws' own small functions on it.
-/
import Derived.Test.YtfjoggkielpipaaCpySp
import Derived.Test.YtfjoggkielpipaaFrame
import Derived.Lib.QuietBelow
namespace Go.Proofs.Ytfjoggkielpipaa
open Go.RowKit Go.Sort

structure Ms where
  c : Int
  t : Int
deriving DecidableEq

def okMs (s : Ms) : Prop := okInt s.c ∧ okInt s.t
def measures (L : List Ms) : List Value := L.flatMap fun s => [Value.int .i64 s.c, Value.int .i64 s.t]
theorem measures_len (L : List Ms) : (measures L).length = L.length * 2 := flat_len _ 2 (fun _ => rfl) L
theorem Mem.measure {w : World} {A : Option Addr} {L : List Ms} (h : Mem w A (measures L)) {k : Nat} {s : Ms} (hk : L[k]? = some s) :
    ∃ b off, A = some ⟨b, off, none⟩ ∧ w.cell? ⟨b, off + k * 2, none⟩ = some (.int .i64 s.c) ∧ w.cell? ⟨b, off + k * 2 + 1, none⟩ = some (.int .i64 s.t) := by
  obtain ⟨b, off, e, hc⟩ := Mem.elem (sz := 2) (fun _ => rfl) h hk (by omega)
  exact ⟨b, off, e, hc 0 _ rfl, hc 1 _ rfl⟩
theorem measures_set : ∀ (L : List Ms) (k : Nat) (s : Ms), measures (L.set k s) = ((((measures L).set (k * 2) (.int .i64 s.c))).set (k * 2 + 1) (.int .i64 s.t))
  | [], _, _ => by simp [measures]
  | x :: L, 0, n => by simp [measures]
  | x :: L, k + 1, n => by
    have := measures_set L k n
    have e1 : (k + 1) * 2 = k * 2 + 1 + 1 := by omega
    simp only [measures, List.set_cons_succ, List.flatMap_cons, List.cons_append, List.nil_append, e1] at *
    rw [this]
theorem info_measure : (Try.prog.info? 85).map (fun i => (i.zero, i.size, i.bytes)) = some (some (.agg #[.int .i64 0, .int .i64 0]), 2, 16) := by kernel_rfl
theorem szMeasureS_yes (A : Option Addr) (c : Nat) (n : Nat) (left : Int) (w : World) (h0 : 0 ≤ left) (h1 : left ≤ 1048576) (h2 : (n : Int) ≤ left) : Calls Try.prog 35 #[.slice A n c, .int .i64 left] w fun e w' => e = .returned (.int .i64 (left - n)) ∧ w = w' := by
  go_enter Try.func35, Try.ntmps35
  go_wp2
  go_ret
  exact ⟨rfl, rfl⟩
theorem szMeasureS_no (A : Option Addr) (c : Nat) (n : Nat) (left : Int) (w : World) (h0 : 0 ≤ left) (h1 : left ≤ 1048576) (h2 : left < (n : Int)) (h3 : n ≤ 9223372036854775807) : Calls Try.prog 35 #[.slice A n c, .int .i64 left] w fun e w' => e = .returned (.int .i64 (-1)) ∧ w = w' := by
  go_enter Try.func35, Try.ntmps35
  go_wp2
  go_ret
  exact ⟨rfl, rfl⟩
theorem toMeasure_any (s : Ms) (w : World) : Calls Try.prog 70 #[.agg #[.int .i64 s.c, .int .i64 s.t]] w fun e w' => e = .returned (.agg #[.int .i64 s.c, .int .i64 s.t]) ∧ Below w.heap.size w w' := by
  go_enter Try.func70, Try.ntmps70
  go_wp2
  refine bodyPost_ret (v := .agg #[.int .i64 s.c, .int .i64 s.t]) (by simp [results, Try.results70, go_sem]) rfl ⟨rfl, ?_⟩
  repeat (first | exact Below.refl _ _ | (refine Below.setCell ?_ (by simp; try omega) _) | (refine Below.alloc ?_ (by simp; try omega) _))
theorem eqMeasure_any (a b : Ms) (w : World) : Calls Try.prog 75 #[.agg #[.int .i64 a.c, .int .i64 a.t], .agg #[.int .i64 b.c, .int .i64 b.t]] w fun e w' => e = .returned (.bool (decide (a = b))) ∧ ∃ o1 o2, (w.alloc o1).alloc o2 = w' := by
  obtain ⟨a0, a1⟩ := a
  obtain ⟨b0, b1⟩ := b
  by_cases h0 : a0 = b0
  · subst h0
    by_cases h1 : a1 = b1
    · subst h1
      go_enter Try.func75, Try.ntmps75
      go_wp2
      go_ret
      exact ⟨by simp, _, _, rfl⟩
    · have e2 : (a1 != b1) = true := by simpa using h1
      go_enter Try.func75, Try.ntmps75
      go_wp2
      go_ret
      exact ⟨by simp [h1], _, _, rfl⟩
  · have e2 : (a0 != b0) = true := by simpa using h0
    go_enter Try.func75, Try.ntmps75
    go_wp2
    go_ret
    exact ⟨by simp [h0], _, _, rfl⟩
set_option maxHeartbeats 800000 in
theorem toMeasureS_any (A : Option Addr) (c : Nat) (L : List Ms) (w : World) (hm : Mem w A (measures L)) (hl : L.length ≤ 1048576) : Calls Try.prog 37 #[.slice A L.length c] w fun e w' =>
    ∃ A' c', e = .returned (.slice A' L.length c') ∧ w'.ownsRow w.heap.size 85 2 (.slice A' L.length c') L.length (measures L) ∧ Below w.heap.size w w' := by
  obtain ⟨i0, hi, hz0, hz1, hz2⟩ := info_parts info_measure
  go_enter Try.func37, Try.ntmps37
  go_wp2_with (at_make; refine wpList_make_full _ rfl _ _ 54 rfl w.heap.size 85 i0 (.agg #[.int .i64 0, .int .i64 0]) 2 Try.underlying54 hi hz0 hz1 _ _ _ _ L.length rfl rfl rfl rfl ?b2 ?b3 (Nat.le_refl _) ?_)
  case b2 => rw [hz2]; omega
  case b3 => unfold maxLen; omega
  intro w0 hown0 hgrow0
  have hb0 := grown_below hgrow0
  have e0 : Hid ((madeCells #[.int .i64 0, .int .i64 0] (L.length * 2)).toList = measures (part L ⟨0, 0⟩ 0)) := Lib.hid (by rw [part_zero]; exact made_flat (fun s : Ms => [Value.int .i64 s.c, Value.int .i64 s.t]) 2 ⟨0, 0⟩ (by omega) (fun _ => rfl) L.length)
  go_wp2
  go_loopw [4] (fun i wr => ∃ k : Nat, k ≤ L.length ∧ i = .int .i64 k ∧ wr.ownsRow w.heap.size 85 2 (.slice (some ⟨w.heap.size, 0, none⟩) L.length L.length) L.length (measures (part L ⟨0, 0⟩ k)) ∧ Below w.heap.size w wr) (fun i _ => L.length - (intOf i).toNat)
  case atStart => exact ⟨0, by omega, rfl, e0.out ▸ hown0, hb0⟩
  case round =>
    obtain ⟨k, hk, rfl, hown, hb⟩ := hrel
    by_cases hlt : k < L.length
    · obtain ⟨s, hs⟩ := some_of_lt hlt
      obtain ⟨b, off, rfl, h0, h1⟩ := (hm.below hb).measure hs
      have hpl : (measures (part L ⟨0, 0⟩ k)).length = L.length * 2 := by rw [measures_len, part_len L _ hk]
      obtain ⟨old0, hold0⟩ := some_of_lt (L := measures (part L ⟨0, 0⟩ k)) (k := k * 2) (by omega)
      have H0 := Lib.hid hold0
      obtain ⟨old1, hold1⟩ := some_of_lt (L := measures (part L ⟨0, 0⟩ k)) (k := k * 2 + 1) (by omega)
      have H1 := Lib.hid hold1
      have HS := Lib.hid hs
      have HO := Lib.hid hown
      clear hs hpl hown hold0 hold1
      go_wp2_with fail
      refine (toMeasure_any s wr).mono ?_
      rintro e w1 ⟨rfl, hq⟩
      have ho := own_below HO.out hq
      have hc0 := (ho.cellAt (k * 2) (by omega)).trans H0.out
      have hf0 := ho.frozenAt (k * 2)
      have hc1 := (ho.cellAt (k * 2 + 1) (by omega)).trans H1.out
      have hf1 := ho.frozenAt (k * 2 + 1)
      have st0 := (ho.stored (k * 2) (.int .i64 s.c)).1
      have st1 := (st0.stored (k * 2 + 1) (.int .i64 s.t)).1
      rw [← measures_set, part_set HS.out] at st1
      have HST := Lib.hid st1
      have hq' := Lib.hid hq
      clear ho hq st0 st1
      go_wp2
      go_roundw
      case rel => exact ⟨k + 1, by omega, by go_num, HST.out, ((hb.trans (hq'.out.mono hb.size)).setCell (Nat.le_refl _) _).setCell (Nat.le_refl _) _⟩
      case measure => simp [intOf]; omega
    · go_wp2
      go_ret
      have : part L ⟨0, 0⟩ k = L := part_all L _ (by omega)
      rw [this] at hown
      exact ⟨_, _, rfl, hown, hb⟩
set_option maxHeartbeats 800000 in
theorem eqMeasureS_any (A B : Option Addr) (c d : Nat) (L M : List Ms) (w : World) (hm : Mem w A (measures L)) (hn : Mem w B (measures M)) (hl : L.length ≤ 1048576) (_ : M.length ≤ 1048576) : Calls Try.prog 39 #[.slice A L.length c, .slice B M.length d] w fun e w' =>
    e = .returned (.bool (decide (L = M))) ∧ Below w.heap.size w w' := by
  by_cases hlen : L.length = M.length
  · have hL : ((L.length : Int) != M.length) = false := by simp [hlen]
    have HL := Lib.hid hlen
    clear hlen
    go_enter Try.func39, Try.ntmps39
    go_wp2
    go_loopw [5] (fun i wr => ∃ k : Nat, k ≤ L.length ∧ i = .int .i64 k ∧ Below w.heap.size w wr ∧ Hid (L.take k = M.take k)) (fun i _ => L.length - (intOf i).toNat)
    case atStart => exact ⟨0, by omega, rfl, Below.refl _ _, Lib.hid (by simp)⟩
    case round =>
      obtain ⟨k, hk, rfl, hb, H⟩ := hrel
      by_cases hlt : k < L.length
      · obtain ⟨s, hs⟩ := some_of_lt hlt
        obtain ⟨t, ht⟩ := some_of_lt (L := M) (k := k) (by have := HL.out; omega)
        obtain ⟨b, off, rfl, h0, h1⟩ := (hm.below hb).measure hs
        obtain ⟨b2, off2, rfl, g0, g1⟩ := (hn.below hb).measure ht
        have hlt2 : k < M.length := by have := HL.out; omega
        have HS := Lib.hid hs
        have HT := Lib.hid ht
        clear hs ht
        have k0 := cell_regrown h0
        have q0 := cell_regrown g0
        have k1 := cell_regrown h1
        have q1 := cell_regrown g1
        have cE : ∀ dd os, Calls Try.prog 75 #[.agg #[.int .i64 s.c, .int .i64 s.t], .agg #[.int .i64 t.c, .int .i64 t.t]] (grow (redrawn wr dd) os) fun e w'' => e = .returned (.bool (decide (s = t))) ∧ ∃ p : Regrown, w'' = grow (redrawn wr p.d) p.os :=
          fun dd os => Calls.regrown_of ((eqMeasure_any s t _).mono fun e w' ⟨he, o1, o2, hw⟩ => ⟨he, by subst hw; exact ((Below.refl _ _).alloc (Nat.le_refl _) _).alloc (by simp) _⟩)
        by_cases hst : s = t
        · have e1 : decide (s = t) = true := by simpa using hst
          have HST := Lib.hid hst
          clear hst
          go_wp2
          refine wp_region_quiet_below (by kernel_rfl) (by kernel_rfl) ?_
          repeat (quiet_step (exact cE _ _))
          refine wpQuiet_nil ?_
          intro _ hw'
          obtain ⟨⟨dq, osq⟩, hw''⟩ := hw'
          subst hw''
          have hb2 := below_regrown wr dq osq
          go_wp2
          go_roundw
          case rel => exact ⟨k + 1, by omega, by go_num, hb.trans (hb2.mono hb.size), Lib.hid (by rw [List.take_add_one, List.take_add_one, H.out, HS.out, HT.out, HST.out])⟩
          case measure => simp [intOf]; omega
        · have e1 : decide (s = t) = false := by simpa using hst
          go_wp2
          refine wp_region_quiet_below (by kernel_rfl) (by kernel_rfl) ?_
          repeat (quiet_step (exact cE _ _))
          refine wpQuiet_nil ?_
          intro _ hw'
          obtain ⟨⟨dq, osq⟩, hw''⟩ := hw'
          subst hw''
          have hb2 := below_regrown wr dq osq
          go_wp2
          go_ret
          refine ⟨ret_bool ?_, hb.trans (hb2.mono hb.size)⟩
          have : L ≠ M := fun h => by rw [h] at HS; have := HS.out; rw [HT.out] at this; exact hst (Option.some.inj this).symm
          simp [this]
      · go_wp2
        go_ret
        refine ⟨ret_bool ?_, hb⟩
        have h1 := H.out
        rw [List.take_of_length_le (by omega), List.take_of_length_le (by have := HL.out; omega)] at h1
        simp [h1]
  · have hL : ((L.length : Int) != M.length) = true := by simp; omega
    have : Hid (decide (L = M) = false) := Lib.hid (decide_eq_false (fun h => hlen (by rw [h])))
    go_enter Try.func39, Try.ntmps39
    go_wp2
    go_ret
    exact ⟨ret_bool this.out.symm, Below.refl _ _⟩
def runMs (k : Int) (n : Nat) : List Ms := (List.range n).map fun i : Nat => ⟨k + 2 * (i : Int), k + 2 * (i : Int) + 1⟩
theorem runMs_len (k : Int) (n : Nat) : (runMs k n).length = n := by simp [runMs]
def markedMs (L : List Ms) (k : Int) (j : Nat) : List Ms := runMs k j ++ L.drop j
theorem markedMs_zero (L : List Ms) (k : Int) : markedMs L k 0 = L := by simp [markedMs, runMs]
theorem markedMs_all (L : List Ms) (k : Int) {j : Nat} (h : L.length ≤ j) (h2 : j ≤ L.length) : markedMs L k j = runMs k L.length := by
  have : j = L.length := by omega
  subst this
  simp [markedMs]
theorem markedMs_len (L : List Ms) (k : Int) {j : Nat} (h : j ≤ L.length) : (markedMs L k j).length = L.length := by simp [markedMs, runMs]; omega
theorem markedMs_set {L : List Ms} {k : Int} {j : Nat} (h : j < L.length) : (markedMs L k j).set j ⟨k + 2 * (j : Int), k + 2 * (j : Int) + 1⟩ = markedMs L k (j + 1) := by
  have e1 : (runMs k j).length = j := runMs_len k j
  rw [markedMs, markedMs, List.set_append_right _ _ (by omega), e1, Nat.sub_self, runMs, runMs, List.range_succ, List.map_append, List.append_assoc]
  congr 1
  rw [List.drop_eq_getElem_cons h, List.set_cons_zero]
  rfl
set_option maxHeartbeats 800000 in
theorem markMeasureS_any (base : Nat) (A : Option Addr) (c : Nat) (L : List Ms) (k0 : Int) (w : World) (hown : w.ownsRow base 85 2 (.slice A L.length c) L.length (measures L)) (hl : L.length ≤ 1048576) (h0 : 0 ≤ k0) (h1 : k0 ≤ 1000000000) : Calls Try.prog 40 #[.slice A L.length c, .int .i64 k0] w fun e w' =>
    e = .returned (.int .i64 (k0 + 2 * L.length)) ∧ w'.ownsRow base 85 2 (.slice A L.length c) L.length (measures (runMs k0 L.length)) ∧ w.grownBy w' (Value.slice A L.length c).ownBlock := by
  go_enter Try.func40, Try.ntmps40
  go_wp2
  go_loopw [1, 5] (fun kk i wr => ∃ j : Nat, j ≤ L.length ∧ i = .int .i64 j ∧ kk = .int .i64 (k0 + 2 * j) ∧ wr.ownsRow base 85 2 (.slice A L.length c) L.length (measures (markedMs L k0 j)) ∧ w.grownBy wr (Value.slice A L.length c).ownBlock) (fun _ i _ => L.length - (intOf i).toNat)
  case atStart => exact ⟨0, by omega, rfl, by simp, (markedMs_zero L k0).symm ▸ hown, grown_refl _ _⟩
  case round =>
    obtain ⟨j, hj, rfl, rfl, ho, hg⟩ := hrel
    by_cases hlt : j < L.length
    · obtain ⟨g, rfl, hg1, hg2⟩ := own_addr ho (by omega)
      have hpl : (measures (markedMs L k0 j)).length = L.length * 2 := by rw [measures_len, markedMs_len L k0 hj]
      obtain ⟨old0, hold0⟩ := some_of_lt (L := measures (markedMs L k0 j)) (k := j * 2) (by omega)
      have hc0 := (ho.cellAt (j * 2) (by omega)).trans hold0
      have hf0 := ho.frozenAt (j * 2)
      obtain ⟨old1, hold1⟩ := some_of_lt (L := measures (markedMs L k0 j)) (k := j * 2 + 1) (by omega)
      have hc1 := (ho.cellAt (j * 2 + 1) (by omega)).trans hold1
      have hf1 := ho.frozenAt (j * 2 + 1)
      have st0 := ho.stored (j * 2) (.int .i64 (k0 + 2 * j))
      have st1 := st0.1.stored (j * 2 + 1) (.int .i64 (k0 + 2 * j + 1))
      have st := st1.1
      rw [← measures_set _ j ⟨k0 + 2 * j, k0 + 2 * j + 1⟩, markedMs_set hlt] at st
      have HST := Lib.hid st
      have HG := Lib.hid (grown_trans (grown_trans hg st0.2) st1.2)
      clear hpl st ho hg hold0 hold1 st0 st1
      go_wp2
      go_roundw
      case rel => exact ⟨j + 1, by omega, by go_num, by go_num, HST.out, HG.out⟩
      case measure => simp [intOf]; omega
    · go_wp2
      go_ret
      have e1 : j = L.length := by omega
      subst e1
      rw [markedMs_all L k0 (Nat.le_refl _) (Nat.le_refl _)] at ho
      exact ⟨rfl, ho, hg⟩
theorem Rd_measure {H : Type} (enc : TypeId × Value → H) (w : World) : Rd enc Try.prog w 87 2 (fun s : Ms => [Value.int .i64 s.c, Value.int .i64 s.t]) okMs :=
  (Rd_struct2 Try.underlying87 (by kernel_rfl) rfl rfl (Rd_i enc w) (Rd_i enc w)).conv (fun a => (⟨a.1, a.2⟩ : Ms)) (fun _ => rfl) (fun _ => rfl) (fun _ h => h)
end Go.Proofs.Ytfjoggkielpipaa
