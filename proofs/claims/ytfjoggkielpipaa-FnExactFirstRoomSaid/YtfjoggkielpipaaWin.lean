/-
  Window: a struct of 3 numbers; lists of it as cells; the laws' own small functions on it.
-/
import Derived.Test.YtfjoggkielpipaaCpySp
import Derived.Test.YtfjoggkielpipaaFrame
import Derived.Lib.QuietBelow
namespace Go.Proofs.Ytfjoggkielpipaa
open Go.RowKit Go.Sort

structure Wn where
  p : Int
  f : Int
  t : Int
deriving DecidableEq

def okWn (s : Wn) : Prop := okInt s.p ∧ okInt s.f ∧ okInt s.t
def windows (L : List Wn) : List Value := L.flatMap fun s => [Value.int .i64 s.p, Value.int .i64 s.f, Value.int .i64 s.t]
theorem windows_len (L : List Wn) : (windows L).length = L.length * 3 := flat_len _ 3 (fun _ => rfl) L
theorem Mem.window {w : World} {A : Option Addr} {L : List Wn} (h : Mem w A (windows L)) {k : Nat} {s : Wn} (hk : L[k]? = some s) :
    ∃ b off, A = some ⟨b, off, none⟩ ∧ w.cell? ⟨b, off + k * 3, none⟩ = some (.int .i64 s.p) ∧ w.cell? ⟨b, off + k * 3 + 1, none⟩ = some (.int .i64 s.f) ∧ w.cell? ⟨b, off + k * 3 + 2, none⟩ = some (.int .i64 s.t) := by
  obtain ⟨b, off, e, hc⟩ := Mem.elem (sz := 3) (fun _ => rfl) h hk (by omega)
  exact ⟨b, off, e, hc 0 _ rfl, hc 1 _ rfl, hc 2 _ rfl⟩
theorem windows_set : ∀ (L : List Wn) (k : Nat) (s : Wn), windows (L.set k s) = ((((((windows L).set (k * 3) (.int .i64 s.p))).set (k * 3 + 1) (.int .i64 s.f))).set (k * 3 + 2) (.int .i64 s.t))
  | [], _, _ => by simp [windows]
  | x :: L, 0, n => by simp [windows]
  | x :: L, k + 1, n => by
    have := windows_set L k n
    have e1 : (k + 1) * 3 = k * 3 + 1 + 1 + 1 := by omega
    simp only [windows, List.set_cons_succ, List.flatMap_cons, List.cons_append, List.nil_append, e1] at *
    rw [this]
theorem info_window : (Try.prog.info? 92).map (fun i => (i.zero, i.size, i.bytes)) = some (some (.agg #[.int .i64 0, .int .i64 0, .int .i64 0]), 3, 24) := by kernel_rfl
theorem szWindowS_yes (A : Option Addr) (c : Nat) (n : Nat) (left : Int) (w : World) (h0 : 0 ≤ left) (h1 : left ≤ 1048576) (h2 : (n : Int) ≤ left) : Calls Try.prog 41 #[.slice A n c, .int .i64 left] w fun e w' => e = .returned (.int .i64 (left - n)) ∧ w = w' := by
  go_enter Try.func41, Try.ntmps41
  go_wp2
  go_ret
  exact ⟨rfl, rfl⟩
theorem szWindowS_no (A : Option Addr) (c : Nat) (n : Nat) (left : Int) (w : World) (h0 : 0 ≤ left) (h1 : left ≤ 1048576) (h2 : left < (n : Int)) (h3 : n ≤ 9223372036854775807) : Calls Try.prog 41 #[.slice A n c, .int .i64 left] w fun e w' => e = .returned (.int .i64 (-1)) ∧ w = w' := by
  go_enter Try.func41, Try.ntmps41
  go_wp2
  go_ret
  exact ⟨rfl, rfl⟩
theorem toWindow_any (s : Wn) (w : World) : Calls Try.prog 77 #[.agg #[.int .i64 s.p, .int .i64 s.f, .int .i64 s.t]] w fun e w' => e = .returned (.agg #[.int .i64 s.p, .int .i64 s.f, .int .i64 s.t]) ∧ Below w.heap.size w w' := by
  go_enter Try.func77, Try.ntmps77
  go_wp2
  refine bodyPost_ret (v := .agg #[.int .i64 s.p, .int .i64 s.f, .int .i64 s.t]) (by simp [results, Try.results77, go_sem]) rfl ⟨rfl, ?_⟩
  repeat (first | exact Below.refl _ _ | (refine Below.setCell ?_ (by simp; try omega) _) | (refine Below.alloc ?_ (by simp; try omega) _))
theorem eqWindow_any (a b : Wn) (w : World) : Calls Try.prog 79 #[.agg #[.int .i64 a.p, .int .i64 a.f, .int .i64 a.t], .agg #[.int .i64 b.p, .int .i64 b.f, .int .i64 b.t]] w fun e w' => e = .returned (.bool (decide (a = b))) ∧ ∃ o1 o2, (w.alloc o1).alloc o2 = w' := by
  obtain ⟨a0, a1, a2⟩ := a
  obtain ⟨b0, b1, b2⟩ := b
  by_cases h0 : a0 = b0
  · subst h0
    by_cases h1 : a1 = b1
    · subst h1
      by_cases h2 : a2 = b2
      · subst h2
        go_enter Try.func79, Try.ntmps79
        go_wp2
        go_ret
        exact ⟨by simp, _, _, rfl⟩
      · have e2 : (a2 != b2) = true := by simpa using h2
        go_enter Try.func79, Try.ntmps79
        go_wp2
        go_ret
        exact ⟨by simp [h2], _, _, rfl⟩
    · have e2 : (a1 != b1) = true := by simpa using h1
      go_enter Try.func79, Try.ntmps79
      go_wp2
      go_ret
      exact ⟨by simp [h1], _, _, rfl⟩
  · have e2 : (a0 != b0) = true := by simpa using h0
    go_enter Try.func79, Try.ntmps79
    go_wp2
    go_ret
    exact ⟨by simp [h0], _, _, rfl⟩
set_option maxHeartbeats 800000 in
theorem toWindowS_any (A : Option Addr) (c : Nat) (L : List Wn) (w : World) (hm : Mem w A (windows L)) (hl : L.length ≤ 1048576) : Calls Try.prog 43 #[.slice A L.length c] w fun e w' =>
    ∃ A' c', e = .returned (.slice A' L.length c') ∧ w'.ownsRow w.heap.size 92 3 (.slice A' L.length c') L.length (windows L) ∧ Below w.heap.size w w' := by
  obtain ⟨i0, hi, hz0, hz1, hz2⟩ := info_parts info_window
  go_enter Try.func43, Try.ntmps43
  go_wp2_with (at_make; refine wpList_make_full _ rfl _ _ 62 rfl w.heap.size 92 i0 (.agg #[.int .i64 0, .int .i64 0, .int .i64 0]) 3 Try.underlying62 hi hz0 hz1 _ _ _ _ L.length rfl rfl rfl rfl ?b2 ?b3 (Nat.le_refl _) ?_)
  case b2 => rw [hz2]; omega
  case b3 => unfold maxLen; omega
  intro w0 hown0 hgrow0
  have hb0 := grown_below hgrow0
  have e0 : Hid ((madeCells #[.int .i64 0, .int .i64 0, .int .i64 0] (L.length * 3)).toList = windows (part L ⟨0, 0, 0⟩ 0)) := Lib.hid (by rw [part_zero]; exact made_flat (fun s : Wn => [Value.int .i64 s.p, Value.int .i64 s.f, Value.int .i64 s.t]) 3 ⟨0, 0, 0⟩ (by omega) (fun _ => rfl) L.length)
  go_wp2
  go_loopw [4] (fun i wr => ∃ k : Nat, k ≤ L.length ∧ i = .int .i64 k ∧ wr.ownsRow w.heap.size 92 3 (.slice (some ⟨w.heap.size, 0, none⟩) L.length L.length) L.length (windows (part L ⟨0, 0, 0⟩ k)) ∧ Below w.heap.size w wr) (fun i _ => L.length - (intOf i).toNat)
  case atStart => exact ⟨0, by omega, rfl, e0.out ▸ hown0, hb0⟩
  case round =>
    obtain ⟨k, hk, rfl, hown, hb⟩ := hrel
    by_cases hlt : k < L.length
    · obtain ⟨s, hs⟩ := some_of_lt hlt
      obtain ⟨b, off, rfl, h0, h1, h2⟩ := (hm.below hb).window hs
      have hpl : (windows (part L ⟨0, 0, 0⟩ k)).length = L.length * 3 := by rw [windows_len, part_len L _ hk]
      obtain ⟨old0, hold0⟩ := some_of_lt (L := windows (part L ⟨0, 0, 0⟩ k)) (k := k * 3) (by omega)
      have H0 := Lib.hid hold0
      obtain ⟨old1, hold1⟩ := some_of_lt (L := windows (part L ⟨0, 0, 0⟩ k)) (k := k * 3 + 1) (by omega)
      have H1 := Lib.hid hold1
      obtain ⟨old2, hold2⟩ := some_of_lt (L := windows (part L ⟨0, 0, 0⟩ k)) (k := k * 3 + 2) (by omega)
      have H2 := Lib.hid hold2
      have HS := Lib.hid hs
      have HO := Lib.hid hown
      clear hs hpl hown hold0 hold1 hold2
      go_wp2_with fail
      refine (toWindow_any s wr).mono ?_
      rintro e w1 ⟨rfl, hq⟩
      have ho := own_below HO.out hq
      have hc0 := (ho.cellAt (k * 3) (by omega)).trans H0.out
      have hf0 := ho.frozenAt (k * 3)
      have hc1 := (ho.cellAt (k * 3 + 1) (by omega)).trans H1.out
      have hf1 := ho.frozenAt (k * 3 + 1)
      have hc2 := (ho.cellAt (k * 3 + 2) (by omega)).trans H2.out
      have hf2 := ho.frozenAt (k * 3 + 2)
      have st0 := (ho.stored (k * 3) (.int .i64 s.p)).1
      have st1 := (st0.stored (k * 3 + 1) (.int .i64 s.f)).1
      have st2 := (st1.stored (k * 3 + 2) (.int .i64 s.t)).1
      rw [← windows_set, part_set HS.out] at st2
      have HST := Lib.hid st2
      have hq' := Lib.hid hq
      clear ho hq st0 st1 st2
      go_wp2
      go_roundw
      case rel => exact ⟨k + 1, by omega, by go_num, HST.out, (((hb.trans (hq'.out.mono hb.size)).setCell (Nat.le_refl _) _).setCell (Nat.le_refl _) _).setCell (Nat.le_refl _) _⟩
      case measure => simp [intOf]; omega
    · go_wp2
      go_ret
      have : part L ⟨0, 0, 0⟩ k = L := part_all L _ (by omega)
      rw [this] at hown
      exact ⟨_, _, rfl, hown, hb⟩
set_option maxHeartbeats 800000 in
theorem eqWindowS_any (A B : Option Addr) (c d : Nat) (L M : List Wn) (w : World) (hm : Mem w A (windows L)) (hn : Mem w B (windows M)) (hl : L.length ≤ 1048576) (_ : M.length ≤ 1048576) : Calls Try.prog 45 #[.slice A L.length c, .slice B M.length d] w fun e w' =>
    e = .returned (.bool (decide (L = M))) ∧ Below w.heap.size w w' := by
  by_cases hlen : L.length = M.length
  · have hL : ((L.length : Int) != M.length) = false := by simp [hlen]
    have HL := Lib.hid hlen
    clear hlen
    go_enter Try.func45, Try.ntmps45
    go_wp2
    go_loopw [5] (fun i wr => ∃ k : Nat, k ≤ L.length ∧ i = .int .i64 k ∧ Below w.heap.size w wr ∧ Hid (L.take k = M.take k)) (fun i _ => L.length - (intOf i).toNat)
    case atStart => exact ⟨0, by omega, rfl, Below.refl _ _, Lib.hid (by simp)⟩
    case round =>
      obtain ⟨k, hk, rfl, hb, H⟩ := hrel
      by_cases hlt : k < L.length
      · obtain ⟨s, hs⟩ := some_of_lt hlt
        obtain ⟨t, ht⟩ := some_of_lt (L := M) (k := k) (by have := HL.out; omega)
        obtain ⟨b, off, rfl, h0, h1, h2⟩ := (hm.below hb).window hs
        obtain ⟨b2, off2, rfl, g0, g1, g2⟩ := (hn.below hb).window ht
        have hlt2 : k < M.length := by have := HL.out; omega
        have HS := Lib.hid hs
        have HT := Lib.hid ht
        clear hs ht
        have k0 := cell_regrown h0
        have q0 := cell_regrown g0
        have k1 := cell_regrown h1
        have q1 := cell_regrown g1
        have k2 := cell_regrown h2
        have q2 := cell_regrown g2
        have cE : ∀ dd os, Calls Try.prog 79 #[.agg #[.int .i64 s.p, .int .i64 s.f, .int .i64 s.t], .agg #[.int .i64 t.p, .int .i64 t.f, .int .i64 t.t]] (grow (redrawn wr dd) os) fun e w'' => e = .returned (.bool (decide (s = t))) ∧ ∃ p : Regrown, w'' = grow (redrawn wr p.d) p.os :=
          fun dd os => Calls.regrown_of ((eqWindow_any s t _).mono fun e w' ⟨he, o1, o2, hw⟩ => ⟨he, by subst hw; exact ((Below.refl _ _).alloc (Nat.le_refl _) _).alloc (by simp) _⟩)
        by_cases hst : s = t
        · have e1 : decide (s = t) = true := by simpa using hst
          have HST := Lib.hid hst
          clear hst
          go_wp2
          refine wp_region_quiet_below (by kernel_rfl) (by kernel_rfl) ?_
          repeat (quiet_step (exact cE _ _))
          refine wpQuiet_nil ?_
          intro _ hw'
          obtain ⟨⟨dq, osq⟩, hw''⟩ := hw'
          subst hw''
          have hb2 := below_regrown wr dq osq
          go_wp2
          go_roundw
          case rel => exact ⟨k + 1, by omega, by go_num, hb.trans (hb2.mono hb.size), Lib.hid (by rw [List.take_add_one, List.take_add_one, H.out, HS.out, HT.out, HST.out])⟩
          case measure => simp [intOf]; omega
        · have e1 : decide (s = t) = false := by simpa using hst
          go_wp2
          refine wp_region_quiet_below (by kernel_rfl) (by kernel_rfl) ?_
          repeat (quiet_step (exact cE _ _))
          refine wpQuiet_nil ?_
          intro _ hw'
          obtain ⟨⟨dq, osq⟩, hw''⟩ := hw'
          subst hw''
          have hb2 := below_regrown wr dq osq
          go_wp2
          go_ret
          refine ⟨ret_bool ?_, hb.trans (hb2.mono hb.size)⟩
          have : L ≠ M := fun h => by rw [h] at HS; have := HS.out; rw [HT.out] at this; exact hst (Option.some.inj this).symm
          simp [this]
      · go_wp2
        go_ret
        refine ⟨ret_bool ?_, hb⟩
        have h1 := H.out
        rw [List.take_of_length_le (by omega), List.take_of_length_le (by have := HL.out; omega)] at h1
        simp [h1]
  · have hL : ((L.length : Int) != M.length) = true := by simp; omega
    have : Hid (decide (L = M) = false) := Lib.hid (decide_eq_false (fun h => hlen (by rw [h])))
    go_enter Try.func45, Try.ntmps45
    go_wp2
    go_ret
    exact ⟨ret_bool this.out.symm, Below.refl _ _⟩
theorem Rd_window {H : Type} (enc : TypeId × Value → H) (w : World) : Rd enc Try.prog w 94 3 (fun s : Wn => [Value.int .i64 s.p, Value.int .i64 s.f, Value.int .i64 s.t]) okWn :=
  (Rd_struct3 Try.underlying94 (by kernel_rfl) rfl rfl rfl (Rd_i enc w) (Rd_i enc w) (Rd_i enc w)).conv (fun a => (⟨a.1, a.2.1, a.2.2⟩ : Wn)) (fun _ => rfl) (fun _ => rfl) (fun _ h => h)
end Go.Proofs.Ytfjoggkielpipaa
