/-
  The reference's draws: any music, counts, and what the law of places draws.
-/
import Derived.Test.YtdipmjflgjlfeaaDrm
namespace Go.Proofs.Ytdipmjflgjlfeaa
open Go.RowKit

theorem set_same {α : Type} {L : List α} {j : Nat} {x : α} (h : L[j]? = some x) : L.set j x = L := by
  apply List.ext_getElem?
  intro i
  by_cases e : j = i
  · subst e
    rw [List.getElem?_set_self (List.getElem?_eq_some_iff.1 h).1, h]
  · rw [List.getElem?_set_ne e]
theorem measures_at0 {L : List Ms} {j : Nat} {s : Ms} (h : L[j]? = some s) : (measures L)[j * 2]? = some (.int .i64 s.c) := by
  have := flat_get (fun s : Ms => [Value.int .i64 s.c, Value.int .i64 s.t]) 2 (fun _ => rfl) L j s h 0 (by omega)
  simpa [measures] using this
theorem measures_at1 {L : List Ms} {j : Nat} {s : Ms} (h : L[j]? = some s) : (measures L)[j * 2 + 1]? = some (.int .i64 s.t) := by
  have := flat_get (fun s : Ms => [Value.int .i64 s.c, Value.int .i64 s.t]) 2 (fun _ => rfl) L j s h 1 (by omega)
  simpa [measures] using this

set_option maxRecDepth 100000 in
set_option maxHeartbeats 1600000 in
theorem anyMusic_any (g k : Nat) (w : World) (h : Cur w g k) (hk : k ≤ 400000) : Calls Try.prog 104 #[.pointer (some ⟨g, 0, none⟩)] w (Dm g (k + 420) 0 41 w) := by
  obtain ⟨i0, hi, hz0, hz1, hz2⟩ := info_parts info_measure
  have hlt0 := h.lt
  go_enter Try.func104, Try.ntmps104
  go_wp2_with fail
  refine (music_any g k _ h (by omega)).mono ?_
  rintro e w1 ⟨A', c', L, rfl, ho, hl, hl1, hL, hc1, ho1⟩
  have X1 := Lib.hid ho
  have HL := Lib.hid hL
  have O1 := Lib.hid ho1
  clear ho hL ho1 h
  go_wp2_with fail
  refine (pick_any g (k + 400) _ _ ((L.length : Int) - 1) hc1 (by omega) (by omega) (by omega) (by omega)).mono ?_
  rintro e w2 ⟨j, rfl, j0, j1, hc2, ho2⟩
  have X2 := Lib.hid (ho2.own X1.out hlt0)
  have O2 := Lib.hid (O1.out.trans ho2)
  clear ho2 hc1
  obtain ⟨j, rfl⟩ := Int.eq_ofNat_of_zero_le j0
  have hj : j < L.length := by omega
  obtain ⟨t0, ht0⟩ := some_of_lt hj
  have HT0 := Lib.hid ht0
  clear ht0
  obtain ⟨q, rfl, hq1, hq2⟩ := own_addr X2.out (by omega)
  go_wp2_with fail
  refine (pick_any g (k + 400 + 2) _ _ 29 hc2 (by omega) (by omega) (by omega) (by omega)).mono ?_
  rintro e w3 ⟨n, rfl, n0, n1, hc3, ho3⟩
  have X3 := Lib.hid (ho3.own X2.out hlt0)
  have O3 := Lib.hid (O2.out.trans ho3)
  have z3 := hc3.lt
  clear ho3 hc2
  by_cases h0 : n = 0
  · subst h0
    go_wp2_with fail
    refine (among_any g (k + 400 + 2 + 2) _ _ _ _ [0, 12, 13] (0) 13 _ (hc3.alloc _) (by omega) (Blk.new _ _ _) rfl rfl (by omega) (by simp) (by simp) (by simp)).mono ?_
    rintro e w4 ⟨y, rfl, y0, y1, hc4, ho4⟩
    have X4 := Lib.hid (ho4.own (X3.out.alloc _) hlt0)
    have O4 := Lib.hid ((O3.out.alloc _).trans ho4)
    have C4 := Lib.hid hc4
    clear ho4 hc3 hc4
    have fz0 := X4.out.frozenAt (j * 2)
    have fz1 := X4.out.frozenAt (j * 2 + 1)
    obtain ⟨_, _, eq1, d1, d2⟩ := Mem.measure (Mem.of_own X4.out) HT0.out
    cases eq1
    rw [Nat.zero_add] at d1 d2
    go_wp2
    go_ret
    have st := (X4.out.stored (j * 2) (.int .i64 y)).1
    have hms : measures (L.set j ⟨y, t0.t⟩) = (measures L).set (j * 2) (.int .i64 y) := by
      rw [measures_set]
      have e1 : ((measures L).set (j * 2) (.int .i64 y))[j * 2 + 1]? = some (.int .i64 t0.t) := by rw [List.getElem?_set_ne (by omega)]; exact measures_at1 HT0.out
      exact set_same e1
    rw [← hms] at st
    refine ⟨some ⟨q, 0, none⟩, c', L.set j ⟨y, t0.t⟩, by rw [List.length_set]; rfl, by rw [List.length_set]; exact st, by rw [List.length_set]; omega, Nat.zero_le _, ?_, ?_, O4.out.set (.inr hq1) _⟩
    · intro s hs
      rcases List.mem_or_eq_of_mem_set hs with hs | hs
      · exact HL.out s hs
      · have ht0 := HL.out t0 (List.mem_of_getElem? HT0.out)
        obtain ⟨g1, g2, g3, g4⟩ := ht0
        subst hs; exact ⟨by first | exact g1 | (show (0 : Int) ≤ y; omega), by first | exact g2 | (show y ≤ 13; omega), by first | exact g3 | (show (39 : Int) ≤ y; omega), by first | exact g4 | (show y ≤ 221; omega)⟩
    · exact (C4.out.put1 (by show g < q; omega)).mono (by omega)
  have h0' : (n == 0) = false := beq_eq_false_iff_ne.2 h0
  by_cases h1 : n = 1
  · subst h1
    go_wp2_with fail
    refine (among_any g (k + 400 + 2 + 2) _ _ _ _ [39, 40, 220, 221] (39) 221 _ (hc3.alloc _) (by omega) (Blk.new _ _ _) rfl rfl (by omega) (by simp) (by simp) (by simp)).mono ?_
    rintro e w4 ⟨y, rfl, y0, y1, hc4, ho4⟩
    have X4 := Lib.hid (ho4.own (X3.out.alloc _) hlt0)
    have O4 := Lib.hid ((O3.out.alloc _).trans ho4)
    have C4 := Lib.hid hc4
    clear ho4 hc3 hc4
    have fz0 := X4.out.frozenAt (j * 2)
    have fz1 := X4.out.frozenAt (j * 2 + 1)
    obtain ⟨_, _, eq1, d1, d2⟩ := Mem.measure (Mem.of_own X4.out) HT0.out
    cases eq1
    rw [Nat.zero_add] at d1 d2
    go_wp2
    go_ret
    have st := (X4.out.stored (j * 2 + 1) (.int .i64 y)).1
    have hms : measures (L.set j ⟨t0.c, y⟩) = (measures L).set (j * 2 + 1) (.int .i64 y) := by
      rw [measures_set]
      have e1 : (measures L)[j * 2]? = some (.int .i64 t0.c) := measures_at0 HT0.out
      rw [set_same e1]
    rw [← hms] at st
    refine ⟨some ⟨q, 0, none⟩, c', L.set j ⟨t0.c, y⟩, by rw [List.length_set]; rfl, by rw [List.length_set]; exact st, by rw [List.length_set]; omega, Nat.zero_le _, ?_, ?_, O4.out.set (.inr hq1) _⟩
    · intro s hs
      rcases List.mem_or_eq_of_mem_set hs with hs | hs
      · exact HL.out s hs
      · have ht0 := HL.out t0 (List.mem_of_getElem? HT0.out)
        obtain ⟨g1, g2, g3, g4⟩ := ht0
        subst hs; exact ⟨by first | exact g1 | (show (0 : Int) ≤ y; omega), by first | exact g2 | (show y ≤ 13; omega), by first | exact g3 | (show (39 : Int) ≤ y; omega), by first | exact g4 | (show y ≤ 221; omega)⟩
    · exact (C4.out.put1 (by show g < q; omega)).mono (by omega)
  have h1' : (n == 1) = false := beq_eq_false_iff_ne.2 h1
  by_cases h2 : n = 2
  · subst h2
    go_wp2_with fail
    refine (pick_any g (k + 400 + 2 + 2) _ _ 1 hc3 (by omega) (by omega) (by omega) (by omega)).mono ?_
    rintro e w4 ⟨x, rfl, x0, x1, hc4, ho4⟩
    have X4 := Lib.hid (ho4.own X3.out hlt0)
    have O4 := Lib.hid (O3.out.trans ho4)
    have C4 := Lib.hid hc4
    clear ho4 hc3 hc4
    have hm0 : 40 ≤ 40 + x := by omega
    have hm1 : 40 + x ≤ 41 := by omega
    go_wp2
    generalize 40 + x = m at *
    go_loopw [3] (fun v wr => ∃ M : List Ms, (M.length : Int) ≤ m ∧ wr.ownsRow w.heap.size 112 2 v M.length (measures M) ∧ (∀ s ∈ M, smMs s) ∧ Cur wr g (k + 400 + 2 + 2 + 2) ∧ Oth g w wr) (fun v _ => 64 - lenOf v)
    case atStart => exact ⟨L, by omega, X4.out, HL.out, C4.out, O4.out⟩
    case round =>
      obtain ⟨M, hk0, hown, hM, hcur, hoth⟩ := hrel
      obtain ⟨B', d', rfl⟩ := own_form hown
      have HX := Lib.hid hown
      have HM := Lib.hid hM
      have HOt := Lib.hid hoth
      have HCU := Lib.hid hcur
      have hzr : w.heap.size ≤ wr.heap.size := hoth.size
      clear hown hM hoth hcur
      by_cases hlt : (M.length : Int) < m
      · go_wp2_with (at_builtin; refine wpList_append_one _ rfl (.tmp 41) (.tmp 43) 71 rfl w.heap.size 112 i0 (.agg #[.int .i64 0, .int .i64 0]) 2 16 Try.underlying71 hi hz0 hz1 hz2 rfl (by omega) _ _ _ rfl HX.out _ _ _ rfl rfl rfl (by omega) (by omega) (by omega) ?_; intro v' w10 hown' hb10)
        go_roundw
        case rel =>
          refine ⟨M ++ [⟨4, 120⟩], by simp; omega, ?_, ?_, HCU.out.below hb10 hlt0, Oth.of_base hb10 hzr HOt.out⟩
          · rw [measures_snoc]; simpa using hown'
          · intro s hs
            rcases List.mem_append.1 hs with hs | hs
            · exact HM.out s hs
            · simp at hs; subst hs; exact ⟨show (0 : Int) ≤ 4 by omega, show (4 : Int) ≤ 13 by omega, show (39 : Int) ≤ 120 by omega, show (120 : Int) ≤ 221 by omega⟩
        case measure =>
          obtain ⟨A'', c'', rfl⟩ := own_form hown'
          simp [lenOf]; omega
      · go_wp2
        go_ret
        exact ⟨B', d', M, rfl, HX.out, by omega, Nat.zero_le _, HM.out, HCU.out.mono (by omega), HOt.out⟩
  have h2' : (n == 2) = false := beq_eq_false_iff_ne.2 h2
  have HC := Lib.hid hc3
  clear hc3
  by_cases h3 : n = 3
  · subst h3
    go_wp2
    go_ret
    exact ⟨none, 0, [], rfl, World.ownsRow_nil _ _ _ _, by simp, by simp, (fun s hs => by cases hs), HC.out.mono (by omega), O3.out⟩
  · have h3' : (n == 3) = false := beq_eq_false_iff_ne.2 h3
    go_wp2
    go_ret
    exact ⟨some ⟨q, 0, none⟩, c', L, rfl, X3.out, by omega, Nat.zero_le _, HL.out, HC.out.mono (by omega), O3.out⟩
end Go.Proofs.Ytdipmjflgjlfeaa
