/-
  Draws of charts and of performers: chart, anyChart, performersOf.
-/
import Derived.Test.YthehcjfljjfnmaaGreatDrd
import Derived.Test.YthehcjfljjfnmaaGreatBase
namespace Go.Proofs.YthehcjfljjfnmaaGreat
open Go.RowKit

/-- A chart is drawn. -/
def Dh (g k : Nat) (w : World) (e : Ending) (w' : World) : Prop :=
  ∃ A' c' L, e = .returned (.slice A' L.length c') ∧ L.length ≤ 13 ∧ w'.ownsRow w.heap.size 24 2 (.slice A' L.length c') L.length (spots L) ∧ (∀ s ∈ L, smSp s) ∧ Cur w' g k ∧ Oth g w w'
set_option maxRecDepth 100000 in
theorem chart_any (g k : Nat) (w : World) (h : Cur w g k) (hk : k ≤ 500000) : Calls Tryz.prog 108 #[.pointer (some ⟨g, 0, none⟩)] w fun e w' => ∃ m, 1 ≤ m ∧ m ≤ 13 ∧ Dc g (k + 4100) m w e w' := by
  have hlt0 := h.lt
  go_enter Tryz.func108, Tryz.ntmps108
  go_wp2_with fail
  refine (one_any g k _ _ h (by omega) (by omega)).mono ?_
  rintro e w1 ⟨b, rfl, hc1, ho1⟩
  have O1 := Lib.hid ho1
  clear ho1 h
  have z1 : w.heap.size ≤ w1.heap.size := O1.out.size
  cases b
  · go_wp2_with fail
    refine (pick_any g (k + 2) _ _ 5 hc1 (by omega) (by omega) (by omega) (by omega)).mono ?_
    rintro e w2 ⟨n, rfl, n0, n1, hc2, ho2⟩
    have O2 := Lib.hid (O1.out.trans ho2)
    clear ho2 hc1
    obtain ⟨n, rfl⟩ := Int.eq_ofNat_of_zero_le n0
    have z2 : w.heap.size ≤ w2.heap.size := O2.out.size
    go_wp2_with fail
    rw [show (1 : Int) + (n : Int) = ((1 + n : Nat) : Int) by omega]
    refine (chartOf_any g (k + 4) (1 + n) _ hc2 (by omega) (by omega)).mono ?_
    rintro e w3 ⟨A', c', L, rfl, hl, hx, hsm, hc3, ho3⟩
    have O3 := Lib.hid (O2.out.trans ho3)
    have HX := Lib.hid (own_base hx z2)
    have HC := Lib.hid hc3
    have HS := Lib.hid hsm
    have HL := Lib.hid hl
    clear ho3 hx hc3 hsm hc2 hl
    go_wp2
    go_ret
    exact ⟨1 + n, by omega, by omega, A', c', L, rfl, HL.out, HX.out, HS.out, HC.out.mono (by omega), O3.out⟩
  · go_wp2_with fail
    refine (chartOf_any g (k + 2) 12 _ hc1 (by omega) (by omega)).mono ?_
    rintro e w3 ⟨A', c', L, rfl, hl, hx, hsm, hc3, ho3⟩
    have O3 := Lib.hid (O1.out.trans ho3)
    have HX := Lib.hid (own_base hx z1)
    have HC := Lib.hid hc3
    have HS := Lib.hid hsm
    have HL := Lib.hid hl
    clear ho3 hx hc3 hsm hc1 hl
    go_wp2
    go_ret
    exact ⟨12, by omega, by omega, A', c', L, rfl, HL.out, HX.out, HS.out, HC.out.mono (by omega), O3.out⟩

set_option maxHeartbeats 3200000 in
set_option maxRecDepth 100000 in
theorem anyChart_any (g k : Nat) (w : World) (h : Cur w g k) (hk : k ≤ 400000) : Calls Tryz.prog 98 #[.pointer (some ⟨g, 0, none⟩)] w (Dh g (k + 9000) w) := by
  have hlt0 := h.lt
  go_enter Tryz.func98, Tryz.ntmps98
  go_wp2_with fail
  refine (chart_any g k _ h (by omega)).mono ?_
  rintro e w1 ⟨m, m1, m2, A', c', L, rfl, hl, hx, hsm, hc1, ho1⟩
  have O1 := Lib.hid ho1
  have X1 := Lib.hid hx
  have S1 := Lib.hid hsm
  clear ho1 h hx hsm
  have hl1 : 1 ≤ L.length := by omega
  have hl13 : L.length ≤ 13 := by omega
  clear hl
  go_wp2_with fail
  refine (pick_any g (k + 4100) _ _ ((L.length : Int) - 1) hc1 (by omega) (by omega) (by omega) (by omega)).mono ?_
  rintro e w2 ⟨i, rfl, i0, i1, hc2, ho2⟩
  have O2 := Lib.hid (O1.out.trans ho2)
  have X2 := Lib.hid (ho2.own X1.out hlt0)
  clear ho2 hc1
  obtain ⟨i, rfl⟩ := Int.eq_ofNat_of_zero_le i0
  have hi : i < L.length := by omega
  go_wp2_with fail
  refine (pick_any g (k + 4102) _ _ 29 hc2 (by omega) (by omega) (by omega) (by omega)).mono ?_
  rintro e w3 ⟨n, rfl, n0, n1, hc3, ho3⟩
  have O3 := Lib.hid (O2.out.trans ho3)
  have X3 := Lib.hid (ho3.own X2.out hlt0)
  have z3 : w.heap.size ≤ w3.heap.size := O3.out.size
  clear ho3 hc2
  obtain ⟨q, rfl, hq1, hq2⟩ := own_addr X3.out (by omega)
  by_cases h0 : n = 0
  · subst h0
    go_wp2_with fail
    refine (anySpot_any g (k + 4104) _ hc3 (by omega)).mono ?_
    rintro e w4 ⟨x, y, rfl, x0, x1, y0, y1, hc4, ho4⟩
    have X4 := Lib.hid (ho4.own X3.out hlt0)
    have O4 := Lib.hid (O3.out.trans ho4)
    have C4 := Lib.hid hc4
    clear ho4 hc3 hc4
    have fz0 := X4.out.frozenAt (i * 2)
    have fz1 := X4.out.frozenAt (i * 2 + 1)
    obtain ⟨t0, ht0⟩ := some_of_lt hi
    obtain ⟨_, _, eq1, hcx1, hcx2⟩ := Mem.spot (Mem.of_own X4.out) ht0
    cases eq1
    rw [Nat.zero_add] at hcx1 hcx2
    clear ht0
    go_wp2
    go_ret
    have st1 := (X4.out.stored (i * 2) (.int .i64 x)).1
    have st2 := (st1.stored (i * 2 + 1) (.int .i64 y)).1
    rw [← spots_set L i ⟨x, y⟩] at st2
    refine ⟨some ⟨q, 0, none⟩, c', L.set i ⟨x, y⟩, by rw [List.length_set]; rfl, by rw [List.length_set]; omega, ?_, ?_, ?_, ?_⟩
    · rw [List.length_set]; exact st2
    · intro s hs
      rcases List.mem_or_eq_of_mem_set hs with hs | hs
      · exact S1.out s hs
      · subst hs; exact ⟨show -1 ≤ x by omega, show x ≤ 1281 by omega, show -1 ≤ y by omega, show y ≤ 673 by omega⟩
    · exact ((C4.out.put1 (by show g < q; omega)).put1 (by show g < q; omega)).mono (by omega)
    · exact (O4.out.set (.inr hq1) _).set (.inr hq1) _
  have e0 : ((n : Int) == 0) = false := beq_eq_false_iff_ne.2 h0
  have C3 := Lib.hid hc3
  by_cases h1 : n = 1
  · subst h1
    clear hc3
    have fz0 := X3.out.frozenAt (i * 2)
    have fz1 := X3.out.frozenAt (i * 2 + 1)
    obtain ⟨t0, ht0⟩ := some_of_lt hi
    obtain ⟨u0, hu0⟩ := some_of_lt (L := L) (k := 0) (by omega)
    obtain ⟨_, _, eq1, hcx1, hcx2⟩ := Mem.spot (Mem.of_own X3.out) ht0
    cases eq1
    obtain ⟨_, _, eq2, hcy1, hcy2⟩ := Mem.spot (Mem.of_own X3.out) hu0
    cases eq2
    rw [Nat.zero_add] at hcx1 hcx2
    simp only [Nat.zero_mul, Nat.zero_add] at hcy1 hcy2
    have HU := Lib.hid hu0
    clear ht0 hu0
    go_wp2
    go_ret
    have st1 := (X3.out.stored (i * 2) (.int .i64 u0.x)).1
    have st2 := (st1.stored (i * 2 + 1) (.int .i64 u0.y)).1
    rw [← spots_set L i u0] at st2
    refine ⟨some ⟨q, 0, none⟩, c', L.set i u0, by rw [List.length_set]; rfl, by rw [List.length_set]; omega, ?_, ?_, ?_, ?_⟩
    · rw [List.length_set]; exact st2
    · intro s hs
      rcases List.mem_or_eq_of_mem_set hs with hs | hs
      · exact S1.out s hs
      · subst hs; exact S1.out s (List.mem_of_getElem? HU.out)
    · exact ((C3.out.put1 (by show g < q; omega)).put1 (by show g < q; omega)).mono (by omega)
    · exact (O3.out.set (.inr hq1) _).set (.inr hq1) _
  have e1 : ((n : Int) == 1) = false := beq_eq_false_iff_ne.2 h1
  by_cases h2 : n = 2
  · subst h2
    clear hc3
    go_wp2
    go_ret
    exact ⟨none, 0, [], rfl, by simp, World.ownsRow_nil _ _ _ _, (fun s hs => by cases hs), C3.out.mono (by omega), O3.out⟩
  have e2 : ((n : Int) == 2) = false := beq_eq_false_iff_ne.2 h2
  by_cases h3 : n = 3
  · subst h3
    go_wp2_with fail
    refine (chartOf_any g (k + 4104) 13 _ hc3 (by omega) (by omega)).mono ?_
    rintro e w4 ⟨A4, c4, L4, rfl, hl4, hx4, hsm4, hc4, ho4⟩
    have hl4' : L4.length ≤ 13 := by omega
    clear hl4
    have O4 := Lib.hid (O3.out.trans ho4)
    have X4 := Lib.hid (own_base hx4 z3)
    have S4 := Lib.hid hsm4
    have C4 := Lib.hid hc4
    clear ho4 hx4 hsm4 hc4 hc3
    go_wp2
    go_ret
    exact ⟨A4, c4, L4, rfl, by omega, X4.out, S4.out, C4.out.mono (by omega), O4.out⟩
  have e3 : ((n : Int) == 3) = false := beq_eq_false_iff_ne.2 h3
  clear hc3
  go_wp2
  go_ret
  exact ⟨some ⟨q, 0, none⟩, c', L, rfl, by omega, X3.out, S1.out, C3.out.mono (by omega), O3.out⟩

/-- Performers are drawn. -/
def Di (g k : Nat) (w : World) (e : Ending) (w' : World) : Prop :=
  ∃ A' c' O, e = .returned (.slice A' O.length c') ∧ O.length ≤ 14 ∧ w'.ownsRow w.heap.size 3 1 (.slice A' O.length c') O.length (ints O) ∧ (∀ x ∈ O, -1 ≤ x ∧ x ≤ 13) ∧ Cur w' g k ∧ Oth g w w'
end Go.Proofs.YthehcjfljjfnmaaGreat
