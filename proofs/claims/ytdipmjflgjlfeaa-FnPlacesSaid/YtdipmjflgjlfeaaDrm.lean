/-
  The reference's draws: music.
-/
import Derived.Test.YtdipmjflgjlfeaaDru
import Derived.Test.YtdipmjflgjlfeaaEnt
namespace Go.Proofs.Ytdipmjflgjlfeaa
open Go.RowKit

theorem measures_snoc (L : List Ms) (s : Ms) : measures (L ++ [s]) = measures L ++ [Value.int .i64 s.c, Value.int .i64 s.t] := by simp [measures]
def smMs (s : Ms) : Prop := 0 ≤ s.c ∧ s.c ≤ 13 ∧ 39 ≤ s.t ∧ s.t ≤ 221
/-- Music is drawn. -/
def Dm (g k : Nat) (lo hi : Nat) (w : World) (e : Ending) (w' : World) : Prop :=
  ∃ (A' : Option Addr) (c' : Nat) (L : List Ms), e = .returned (.slice A' L.length c') ∧ w'.ownsRow w.heap.size 112 2 (.slice A' L.length c') L.length (measures L) ∧ L.length ≤ hi ∧ lo ≤ L.length ∧ (∀ s ∈ L, smMs s) ∧ Cur w' g k ∧ Oth g w w'

set_option maxRecDepth 100000 in
set_option maxHeartbeats 1600000 in
theorem music_any (g k : Nat) (w : World) (h : Cur w g k) (hk : k ≤ 500000) : Calls Try.prog 119 #[.pointer (some ⟨g, 0, none⟩)] w (Dm g (k + 400) 1 40 w) := by
  obtain ⟨i0, hi, hz0, hz1, hz2⟩ := info_parts info_measure
  have hlt0 := h.lt
  go_enter Try.func119, Try.ntmps119
  go_wp2_with fail
  refine (pick_any g k _ _ 5 h (by omega) (by omega) (by omega) (by omega)).mono ?_
  rintro e w1 ⟨n, rfl, n0, n1, hc1, ho1⟩
  have O1 := Lib.hid ho1
  clear ho1 h
  go_wp2_with fail
  refine (one_any g (k + 2) _ _ hc1 (by omega) (by omega)).mono ?_
  rintro e w2 ⟨b, rfl, hc2, ho2⟩
  have O2 := Lib.hid (O1.out.trans ho2)
  clear ho2 hc1
  cases b
  all_goals
    go_wp2_with fail
    refine (pick_any g (k + 2 + 2) _ _ 180 hc2 (by omega) (by omega) (by omega) (by omega)).mono ?_
    rintro e w3 ⟨x, rfl, x0, x1, hc3, ho3⟩
    have O3 := Lib.hid (O2.out.trans ho3)
    have z3 := hc3.lt
    clear ho3 hc2
    go_wp2_with fail
    refine (among_any g (k + 2 + 2 + 2) _ _ _ _ [60, 96, 120, 140, 40 + x] 40 220 _ (hc3.alloc _) (by omega) (Blk.new _ _ _) rfl rfl (by omega) (by simp) (by simp) (by simp; omega)).mono ?_
    rintro e w4 ⟨t0, rfl, ta, tb, hc4, ho4⟩
    have HO := Lib.hid ((O3.out.alloc _).trans ho4)
    have HC := Lib.hid hc4
    clear ho4 hc3 hc4
    go_wp2
  · have m0 : 1 ≤ 1 + n := by omega
    have m1 : 1 + n ≤ 40 := by omega
    generalize 1 + n = m at *
    go_loopw [3, 5] (fun v tv wr => ∃ (L : List Ms) (t : Int), (L.length : Int) ≤ m ∧ tv = .int .i64 t ∧ 40 ≤ t ∧ t ≤ 220 ∧ wr.ownsRow w.heap.size 112 2 v L.length (measures L) ∧ (∀ s ∈ L, smMs s) ∧ Cur wr g (k + 10 + L.length * 8) ∧ Oth g w wr) (fun v _ _ => 64 - lenOf v)
    case atStart => exact ⟨[], t0, by simp; try omega, rfl, ta, tb, World.ownsRow_nil _ _ _ _, (fun s h => by simp at h), by simpa using (HC.out.mono (by omega)), HO.out⟩
    case round =>
      obtain ⟨L, t, hk0, rfl, t1, t2, hown, hL, hcur, hoth⟩ := hrel
      obtain ⟨A', c', rfl⟩ := own_form hown
      have HX := Lib.hid hown
      have HL := Lib.hid hL
      have HOt := Lib.hid hoth
      clear hown hL hoth
      by_cases hlt : (L.length : Int) < m
      · go_wp2_with fail
        refine (one_any g (k + 10 + L.length * 8) _ _ hcur (by omega) (by omega)).mono ?_
        rintro e w6 ⟨b, rfl, hc6, ho6⟩
        have X6 := Lib.hid (ho6.own HX.out hlt0)
        have O6 := Lib.hid (HOt.out.trans ho6)
        have z6 := hc6.lt
        clear hcur ho6
        cases b
        · have hc7 := hc6
          have X8 := X6
          have O8 := O6
          have z8 := z6
          clear hc6
          obtain ⟨t', rfl⟩ : ∃ t', t' = t := ⟨_, rfl⟩
          have u1 := t1
          have u2 := t2
          have hcc := hc7.mono (k' := k + 10 + L.length * 8 + 6) (by omega)
          clear hc7
          go_wp2_with fail
          refine (among_any g (k + 10 + L.length * 8 + 6) _ _ _ _ [4, 4, 3, 6, 1, 12] 1 12 _ (hcc.alloc _) (by omega) (Blk.new _ _ _) rfl rfl (by omega) (by simp) (by simp) (by simp)).mono ?_
          rintro e w9 ⟨cn, rfl, cn0, cn1, hc9, ho9⟩
          have X9 := Lib.hid (ho9.own (X8.out.alloc _) hlt0)
          have O9 := Lib.hid ((O8.out.alloc _).trans ho9)
          have C9 := Lib.hid hc9
          have hz9 : w.heap.size ≤ w9.heap.size := O9.out.size
          clear ho9 hcc hc9
          go_wp2_with (at_builtin; refine wpList_append_one _ rfl (.tmp 29) (.tmp 35) 71 rfl w.heap.size 112 i0 (.agg #[.int .i64 0, .int .i64 0]) 2 16 Try.underlying71 hi hz0 hz1 hz2 rfl (by omega) _ _ _ rfl X9.out _ _ _ rfl rfl rfl (by omega) (by omega) (by omega) ?_; intro v' w10 hown' hb10)
          go_roundw
          case rel =>
            refine ⟨L ++ [⟨cn, t'⟩], t', by simp; omega, rfl, u1, u2, ?_, ?_, ?_, Oth.of_base hb10 (by omega) O9.out⟩
            · rw [measures_snoc]; simpa using hown'
            · intro s hs
              rcases List.mem_append.1 hs with hs | hs
              · exact HL.out s hs
              · simp at hs; subst hs; exact ⟨show 0 ≤ cn by omega, show cn ≤ 13 by omega, show 39 ≤ t' by omega, show t' ≤ 221 by omega⟩
            · exact (C9.out.below hb10 hlt0).mono (by simp; omega)
          case measure =>
            obtain ⟨A'', c'', rfl⟩ := own_form hown'
            simp [lenOf]; omega
        · go_wp2_with fail
          refine (pick_any g (k + 10 + L.length * 8 + 2) _ _ 180 hc6 (by omega) (by omega) (by omega) (by omega)).mono ?_
          rintro e w7 ⟨x, rfl, x0, x1, hc7, ho7⟩
          have X7 := Lib.hid (ho7.own X6.out hlt0)
          have O7 := Lib.hid (O6.out.trans ho7)
          have z7 := hc7.lt
          clear ho7 hc6
          go_wp2_with fail
          refine (among_any g (k + 10 + L.length * 8 + 2 + 2) _ _ _ _ [40, 90, 220, 40 + x] 40 220 _ (hc7.alloc _) (by omega) (Blk.new _ _ _) rfl rfl (by omega) (by simp) (by simp) (by simp; omega)).mono ?_
          rintro e w8 ⟨t', rfl, u1, u2, hc8, ho8⟩
          have X8 := Lib.hid (ho8.own (X7.out.alloc _) hlt0)
          have O8 := Lib.hid ((O7.out.alloc _).trans ho8)
          have z8 := hc8.lt
          have hcc := hc8.mono (k' := k + 10 + L.length * 8 + 6) (by omega)
          clear ho8 hc7 hc8
          go_wp2_with fail
          refine (among_any g (k + 10 + L.length * 8 + 6) _ _ _ _ [4, 4, 3, 6, 1, 12] 1 12 _ (hcc.alloc _) (by omega) (Blk.new _ _ _) rfl rfl (by omega) (by simp) (by simp) (by simp)).mono ?_
          rintro e w9 ⟨cn, rfl, cn0, cn1, hc9, ho9⟩
          have X9 := Lib.hid (ho9.own (X8.out.alloc _) hlt0)
          have O9 := Lib.hid ((O8.out.alloc _).trans ho9)
          have C9 := Lib.hid hc9
          have hz9 : w.heap.size ≤ w9.heap.size := O9.out.size
          clear ho9 hcc hc9
          go_wp2_with (at_builtin; refine wpList_append_one _ rfl (.tmp 29) (.tmp 35) 71 rfl w.heap.size 112 i0 (.agg #[.int .i64 0, .int .i64 0]) 2 16 Try.underlying71 hi hz0 hz1 hz2 rfl (by omega) _ _ _ rfl X9.out _ _ _ rfl rfl rfl (by omega) (by omega) (by omega) ?_; intro v' w10 hown' hb10)
          go_roundw
          case rel =>
            refine ⟨L ++ [⟨cn, t'⟩], t', by simp; omega, rfl, u1, u2, ?_, ?_, ?_, Oth.of_base hb10 (by omega) O9.out⟩
            · rw [measures_snoc]; simpa using hown'
            · intro s hs
              rcases List.mem_append.1 hs with hs | hs
              · exact HL.out s hs
              · simp at hs; subst hs; exact ⟨show 0 ≤ cn by omega, show cn ≤ 13 by omega, show 39 ≤ t' by omega, show t' ≤ 221 by omega⟩
            · exact (C9.out.below hb10 hlt0).mono (by simp; omega)
          case measure =>
            obtain ⟨A'', c'', rfl⟩ := own_form hown'
            simp [lenOf]; omega
      · have hl : L.length ≤ 40 := by omega
        have HCU := Lib.hid hcur
        clear hcur
        go_wp2
        go_ret
        exact ⟨A', c', L, rfl, HX.out, hl, by omega, HL.out, HCU.out.mono (by omega), HOt.out⟩
  · skip
    go_loopw [3, 5] (fun v tv wr => ∃ (L : List Ms) (t : Int), (L.length : Int) ≤ 40 ∧ tv = .int .i64 t ∧ 40 ≤ t ∧ t ≤ 220 ∧ wr.ownsRow w.heap.size 112 2 v L.length (measures L) ∧ (∀ s ∈ L, smMs s) ∧ Cur wr g (k + 10 + L.length * 8) ∧ Oth g w wr) (fun v _ _ => 64 - lenOf v)
    case atStart => exact ⟨[], t0, by simp; try omega, rfl, ta, tb, World.ownsRow_nil _ _ _ _, (fun s h => by simp at h), by simpa using (HC.out.mono (by omega)), HO.out⟩
    case round =>
      obtain ⟨L, t, hk0, rfl, t1, t2, hown, hL, hcur, hoth⟩ := hrel
      obtain ⟨A', c', rfl⟩ := own_form hown
      have HX := Lib.hid hown
      have HL := Lib.hid hL
      have HOt := Lib.hid hoth
      clear hown hL hoth
      by_cases hlt : (L.length : Int) < 40
      · go_wp2_with fail
        refine (one_any g (k + 10 + L.length * 8) _ _ hcur (by omega) (by omega)).mono ?_
        rintro e w6 ⟨b, rfl, hc6, ho6⟩
        have X6 := Lib.hid (ho6.own HX.out hlt0)
        have O6 := Lib.hid (HOt.out.trans ho6)
        have z6 := hc6.lt
        clear hcur ho6
        cases b
        · have hc7 := hc6
          have X8 := X6
          have O8 := O6
          have z8 := z6
          clear hc6
          obtain ⟨t', rfl⟩ : ∃ t', t' = t := ⟨_, rfl⟩
          have u1 := t1
          have u2 := t2
          have hcc := hc7.mono (k' := k + 10 + L.length * 8 + 6) (by omega)
          clear hc7
          go_wp2_with fail
          refine (among_any g (k + 10 + L.length * 8 + 6) _ _ _ _ [4, 4, 3, 6, 1, 12] 1 12 _ (hcc.alloc _) (by omega) (Blk.new _ _ _) rfl rfl (by omega) (by simp) (by simp) (by simp)).mono ?_
          rintro e w9 ⟨cn, rfl, cn0, cn1, hc9, ho9⟩
          have X9 := Lib.hid (ho9.own (X8.out.alloc _) hlt0)
          have O9 := Lib.hid ((O8.out.alloc _).trans ho9)
          have C9 := Lib.hid hc9
          have hz9 : w.heap.size ≤ w9.heap.size := O9.out.size
          clear ho9 hcc hc9
          go_wp2_with (at_builtin; refine wpList_append_one _ rfl (.tmp 29) (.tmp 35) 71 rfl w.heap.size 112 i0 (.agg #[.int .i64 0, .int .i64 0]) 2 16 Try.underlying71 hi hz0 hz1 hz2 rfl (by omega) _ _ _ rfl X9.out _ _ _ rfl rfl rfl (by omega) (by omega) (by omega) ?_; intro v' w10 hown' hb10)
          go_roundw
          case rel =>
            refine ⟨L ++ [⟨cn, t'⟩], t', by simp; omega, rfl, u1, u2, ?_, ?_, ?_, Oth.of_base hb10 (by omega) O9.out⟩
            · rw [measures_snoc]; simpa using hown'
            · intro s hs
              rcases List.mem_append.1 hs with hs | hs
              · exact HL.out s hs
              · simp at hs; subst hs; exact ⟨show 0 ≤ cn by omega, show cn ≤ 13 by omega, show 39 ≤ t' by omega, show t' ≤ 221 by omega⟩
            · exact (C9.out.below hb10 hlt0).mono (by simp; omega)
          case measure =>
            obtain ⟨A'', c'', rfl⟩ := own_form hown'
            simp [lenOf]; omega
        · go_wp2_with fail
          refine (pick_any g (k + 10 + L.length * 8 + 2) _ _ 180 hc6 (by omega) (by omega) (by omega) (by omega)).mono ?_
          rintro e w7 ⟨x, rfl, x0, x1, hc7, ho7⟩
          have X7 := Lib.hid (ho7.own X6.out hlt0)
          have O7 := Lib.hid (O6.out.trans ho7)
          have z7 := hc7.lt
          clear ho7 hc6
          go_wp2_with fail
          refine (among_any g (k + 10 + L.length * 8 + 2 + 2) _ _ _ _ [40, 90, 220, 40 + x] 40 220 _ (hc7.alloc _) (by omega) (Blk.new _ _ _) rfl rfl (by omega) (by simp) (by simp) (by simp; omega)).mono ?_
          rintro e w8 ⟨t', rfl, u1, u2, hc8, ho8⟩
          have X8 := Lib.hid (ho8.own (X7.out.alloc _) hlt0)
          have O8 := Lib.hid ((O7.out.alloc _).trans ho8)
          have z8 := hc8.lt
          have hcc := hc8.mono (k' := k + 10 + L.length * 8 + 6) (by omega)
          clear ho8 hc7 hc8
          go_wp2_with fail
          refine (among_any g (k + 10 + L.length * 8 + 6) _ _ _ _ [4, 4, 3, 6, 1, 12] 1 12 _ (hcc.alloc _) (by omega) (Blk.new _ _ _) rfl rfl (by omega) (by simp) (by simp) (by simp)).mono ?_
          rintro e w9 ⟨cn, rfl, cn0, cn1, hc9, ho9⟩
          have X9 := Lib.hid (ho9.own (X8.out.alloc _) hlt0)
          have O9 := Lib.hid ((O8.out.alloc _).trans ho9)
          have C9 := Lib.hid hc9
          have hz9 : w.heap.size ≤ w9.heap.size := O9.out.size
          clear ho9 hcc hc9
          go_wp2_with (at_builtin; refine wpList_append_one _ rfl (.tmp 29) (.tmp 35) 71 rfl w.heap.size 112 i0 (.agg #[.int .i64 0, .int .i64 0]) 2 16 Try.underlying71 hi hz0 hz1 hz2 rfl (by omega) _ _ _ rfl X9.out _ _ _ rfl rfl rfl (by omega) (by omega) (by omega) ?_; intro v' w10 hown' hb10)
          go_roundw
          case rel =>
            refine ⟨L ++ [⟨cn, t'⟩], t', by simp; omega, rfl, u1, u2, ?_, ?_, ?_, Oth.of_base hb10 (by omega) O9.out⟩
            · rw [measures_snoc]; simpa using hown'
            · intro s hs
              rcases List.mem_append.1 hs with hs | hs
              · exact HL.out s hs
              · simp at hs; subst hs; exact ⟨show 0 ≤ cn by omega, show cn ≤ 13 by omega, show 39 ≤ t' by omega, show t' ≤ 221 by omega⟩
            · exact (C9.out.below hb10 hlt0).mono (by simp; omega)
          case measure =>
            obtain ⟨A'', c'', rfl⟩ := own_form hown'
            simp [lenOf]; omega
      · have hl : L.length ≤ 40 := by omega
        have HCU := Lib.hid hcur
        clear hcur
        go_wp2
        go_ret
        exact ⟨A', c', L, rfl, HX.out, hl, by omega, HL.out, HCU.out.mono (by omega), HOt.out⟩
end Go.Proofs.Ytdipmjflgjlfeaa
