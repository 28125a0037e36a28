/-
  The reference's draws: any spot, lists of spots, sources, thousandths.
-/
import Derived.Test.YtdipmjflgjlfeaaDrw
import Derived.Test.YtdipmjflgjlfeaaPlain2
import Derived.Test.YtdipmjflgjlfeaaApp
import Derived.Test.YtdipmjflgjlfeaaCpySp
namespace Go.Proofs.Ytdipmjflgjlfeaa
open Go.RowKit

set_option maxRecDepth 100000 in
theorem anySpot_any (g k : Nat) (w : World) (h : Cur w g k) (hk : k ≤ 700000) : Calls Try.prog 69 #[.pointer (some ⟨g, 0, none⟩)] w (Ds g (k + 16) 1 w) := by
  have hlt := h.lt
  have R0 : Blk (w.alloc (.cells #[.int .i64 0, .int .i64 0] 25)) w.heap.size #[.int .i64 0, .int .i64 0] 25 := Blk.new _ _ _
  have O0 : Oth g w (w.alloc (.cells #[.int .i64 0, .int .i64 0] 25)) := (Oth.refl _ _).alloc _
  have HR := Lib.hid R0
  have HO := Lib.hid O0
  clear R0 O0
  go_enter Try.func69, Try.ntmps69
  go_wp2_with fail
  refine (spot_any g k _ (h.alloc _) (by omega)).mono ?_
  rintro e w1 ⟨x, y, rfl, x0, x1, y0, y1, hc1, ho1⟩
  have R1 := Lib.hid (ho1.blk HR.out (by omega))
  have O1 := Lib.hid (HO.out.trans ho1)
  have z1 : w.heap.size < w1.heap.size := R1.out.lt
  have zg := hc1.lt
  clear ho1 h
  have B1 := Lib.hid (Blk.new w1 #[.int .i64 x, .int .i64 y] 25)
  go_wp2_with fail
  refine (pick_any g (k + 12) _ _ 29 (hc1.alloc _) (by omega) (by omega) (by omega) (by omega)).mono ?_
  rintro e w2 ⟨n, rfl, n0, n1, hc2, ho2⟩
  have R2 := Lib.hid (ho2.blk (R1.out.alloc _) (by omega))
  have B2 := Lib.hid (ho2.blk B1.out (by omega))
  have O2 := Lib.hid ((O1.out.alloc _).trans ho2)
  have zg2 := hc2.lt
  clear ho2 hc1
  by_cases h0 : n = 0
  · subst h0
    go_wp2_with fail
    refine (among_any g (k + 12 + 2) _ _ _ _ [-1, 1281] (-1) 1281 _ (hc2.alloc _) (by omega) (Blk.new _ _ _) rfl rfl (by omega) (by simp) (by simp) (by simp)).mono ?_
    rintro e w3 ⟨X, rfl, X0, X1, hc3, ho3⟩
    have r3 := ho3.blk (R2.out.alloc _) (by omega)
    have b3 := ho3.blk (B2.out.alloc _) (by omega)
    have O3 := Lib.hid ((O2.out.alloc _).trans ho3)
    have C3 := Lib.hid hc3
    have f0 := r3.frozen 0
    have f1 := r3.frozen 1
    have e0 := r3.cell 0
    have e1 := r3.cell 1
    have j0 := b3.frozen 0
    have j1 := b3.frozen 1
    have d0 := b3.cell 0
    have d1 := b3.cell 1
    simp at e0 e1 d0 d1
    have z1' : w1.heap.size ≠ w.heap.size := by omega
    have z1'' : w.heap.size ≠ w1.heap.size := by omega
    clear ho3 hc2 hc3 r3 b3
    go_wp2
    refine bodyPost_ret (v := .agg #[.int .i64 X, .int .i64 y]) (by simp [results, Try.results69, go_sem, e0, e1, z1', z1'']) rfl ⟨_, _, rfl, by omega, by omega, by omega, by omega, ?_, ?_⟩
    · exact ((C3.out.mono (k' := k + 16) (by omega)).put1 (by omega)).put (by omega)
    · exact ((O3.out.set (.inr (Nat.le_of_lt z1)) _).set (.inr (Nat.le_refl _)) _).set (.inr (Nat.le_refl _)) _
  by_cases h1 : n = 1
  · subst h1
    go_wp2_with fail
    refine (among_any g (k + 12 + 2) _ _ _ _ [-1, 673] (-1) 673 _ (hc2.alloc _) (by omega) (Blk.new _ _ _) rfl rfl (by omega) (by simp) (by simp) (by simp)).mono ?_
    rintro e w3 ⟨X, rfl, X0, X1, hc3, ho3⟩
    have r3 := ho3.blk (R2.out.alloc _) (by omega)
    have b3 := ho3.blk (B2.out.alloc _) (by omega)
    have O3 := Lib.hid ((O2.out.alloc _).trans ho3)
    have C3 := Lib.hid hc3
    have f0 := r3.frozen 0
    have f1 := r3.frozen 1
    have e0 := r3.cell 0
    have e1 := r3.cell 1
    have j0 := b3.frozen 0
    have j1 := b3.frozen 1
    have d0 := b3.cell 0
    have d1 := b3.cell 1
    simp at e0 e1 d0 d1
    have z1' : w1.heap.size ≠ w.heap.size := by omega
    have z1'' : w.heap.size ≠ w1.heap.size := by omega
    clear ho3 hc2 hc3 r3 b3
    go_wp2
    refine bodyPost_ret (v := .agg #[.int .i64 x, .int .i64 X]) (by simp [results, Try.results69, go_sem, e0, e1, z1', z1'']) rfl ⟨_, _, rfl, by omega, by omega, by omega, by omega, ?_, ?_⟩
    · exact ((C3.out.mono (k' := k + 16) (by omega)).put1 (by omega)).put (by omega)
    · exact ((O3.out.set (.inr (Nat.le_of_lt z1)) _).set (.inr (Nat.le_refl _)) _).set (.inr (Nat.le_refl _)) _
  have h0' : (n == 0) = false := beq_eq_false_iff_ne.2 h0
  have h1' : (n == 1) = false := beq_eq_false_iff_ne.2 h1
  have r3 := R2.out
  have b3 := B2.out
  have f0 := r3.frozen 0
  have f1 := r3.frozen 1
  have e0 := r3.cell 0
  have e1 := r3.cell 1
  have d0 := b3.cell 0
  have d1 := b3.cell 1
  simp at e0 e1 d0 d1
  have C3 := Lib.hid hc2
  clear hc2 r3 b3
  go_wp2
  refine bodyPost_ret (v := .agg #[.int .i64 x, .int .i64 y]) (by simp [results, Try.results69, go_sem, e0, e1]) rfl ⟨_, _, rfl, by omega, by omega, by omega, by omega, ?_, ?_⟩
  · exact (C3.out.mono (k' := k + 16) (by omega)).put (by omega)
  · exact (O2.out.set (.inr (Nat.le_refl _)) _).set (.inr (Nat.le_refl _)) _
/-- Spots that are nearly ones. -/
def smSp (s : Sp) : Prop := -1 ≤ s.x ∧ s.x ≤ 1281 ∧ -1 ≤ s.y ∧ s.y ≤ 673
theorem smSp.ok {s : Sp} (h : smSp s) : okSp s := by
  obtain ⟨h1, h2, h3, h4⟩ := h
  exact ⟨⟨by omega, by omega⟩, ⟨by omega, by omega⟩⟩
def lenOf : Value → Nat | .slice _ n _ => n | _ => 0
theorem Oth.of_base {g : Nat} {a w w' : World} (h : Below a.heap.size w w') (hz : a.heap.size ≤ w.heap.size) : Oth g a w → Oth g a w' := fun k =>
  ⟨h.os.trans k.os, h.tape.trans k.tape, h.output.trans k.output, Nat.le_trans k.size h.size, fun i hi hne => (h.block i hi).trans (k.block i hi hne)⟩
/-- A list of spots is drawn. -/
def Dl (g k : Nat) (w : World) (e : Ending) (w' : World) : Prop :=
  ∃ (A' : Option Addr) (c' : Nat) (L : List Sp), e = .returned (.slice A' L.length c') ∧ w'.ownsRow w.heap.size 25 2 (.slice A' L.length c') L.length (spots L) ∧ L.length ≤ 41 ∧ (∀ s ∈ L, smSp s) ∧ Cur w' g k ∧ Oth g w w'

set_option maxRecDepth 100000 in
theorem spotList_any (g k : Nat) (w : World) (h : Cur w g k) (hk : k ≤ 600000) : Calls Try.prog 116 #[.pointer (some ⟨g, 0, none⟩)] w (Dl g (k + 600) w) := by
  obtain ⟨i0, hi, hz0, hz1, hz2⟩ := info_parts info_spot
  have hlt0 := h.lt
  go_enter Try.func116, Try.ntmps116
  go_wp2_with fail
  refine (pick_any g k _ _ 7 h (by omega) (by omega) (by omega) (by omega)).mono ?_
  rintro e w1 ⟨n, rfl, n0, n1, hc1, ho1⟩
  have O1 := Lib.hid ho1
  clear ho1 h
  go_wp2_with fail
  refine (one_any g (k + 2) _ _ hc1 (by omega) (by omega)).mono ?_
  rintro e w2 ⟨b, rfl, hc2, ho2⟩
  have O2 := Lib.hid (O1.out.trans ho2)
  clear ho2 hc1
  cases b
  · have m0 : 0 ≤ n := n0
    have HC := Lib.hid hc2
    have HO := O2
    clear hc2
    generalize n = m at *
    have m1 : m ≤ 41 := by omega
    go_wp2
    go_loopw [3] (fun v wr => ∃ L : List Sp, (L.length : Int) ≤ m ∧ wr.ownsRow w.heap.size 25 2 v L.length (spots L) ∧ (∀ s ∈ L, smSp s) ∧ Cur wr g (k + 6 + L.length * 12) ∧ Oth g w wr) (fun v _ => 64 - lenOf v)
    case atStart => exact ⟨[], by simpa using m0, World.ownsRow_nil _ _ _ _, (fun s h => by simp at h), by simpa using (HC.out.mono (by omega)), HO.out⟩
    case round =>
      obtain ⟨L, hk0, hown, hL, hcur, hoth⟩ := hrel
      obtain ⟨A', c', rfl⟩ := own_form hown
      have HX := Lib.hid hown
      have HL := Lib.hid hL
      have HOt := Lib.hid hoth
      clear hown hL hoth
      by_cases hlt : (L.length : Int) < m
      · go_wp2_with fail
        refine (spot_any g (k + 6 + L.length * 12) _ hcur (by omega)).mono ?_
        rintro e w6 ⟨x, y, rfl, x0, x1, y0, y1, hc6, ho6⟩
        have HX6 := Lib.hid (ho6.own HX.out hlt0)
        have HO6 := Lib.hid (HOt.out.trans ho6)
        have hc6' := Lib.hid hc6
        have hz6 : w.heap.size ≤ w6.heap.size := HO6.out.size
        clear hcur ho6 hc6
        go_wp2_with (at_builtin; refine wpList_append_one _ rfl (.tmp 16) (.tmp 19) 31 rfl w.heap.size 25 i0 (.agg #[.int .i64 0, .int .i64 0]) 2 16 Try.underlying31 hi hz0 hz1 hz2 rfl (by omega) _ _ _ rfl HX6.out _ _ _ rfl rfl rfl (by omega) (by omega) (by omega) ?_; intro v' w7 hown' hb7)
        go_roundw
        case rel =>
          refine ⟨L ++ [⟨x, y⟩], by simp; omega, ?_, ?_, ?_, ?_⟩
          · rw [spots_snoc]; simpa using hown'
          · intro s hs
            rcases List.mem_append.1 hs with hs | hs
            · exact HL.out s hs
            · simp at hs; subst hs; exact ⟨show -1 ≤ x by omega, show x ≤ 1281 by omega, show -1 ≤ y by omega, show y ≤ 673 by omega⟩
          · exact (hc6'.out.below hb7 hlt0).mono (by simp; omega)
          · exact Oth.of_base hb7 (by omega) HO6.out
        case measure =>
          obtain ⟨A'', c'', rfl⟩ := own_form hown'
          simp [lenOf]; omega
      · have hl : L.length ≤ 41 := by omega
        have hCu := Lib.hid hcur
        by_cases hm : 0 < m
        · go_wp2_with fail
          refine (one_any g (k + 6 + L.length * 12) _ _ hcur (by omega) (by omega)).mono ?_
          rintro e w8 ⟨b8, rfl, hc8, ho8⟩
          have X8 := Lib.hid (ho8.own HX.out hlt0)
          have O8 := Lib.hid (HOt.out.trans ho8)
          clear ho8 hcur
          cases b8
          · have C8 := Lib.hid hc8
            clear hc8
            go_wp2
            go_ret
            exact ⟨A', c', L, rfl, X8.out, hl, HL.out, C8.out.mono (by omega), O8.out⟩
          · go_wp2_with fail
            refine (pick_any g (k + 6 + L.length * 12 + 2) _ _ (m - 1) hc8 (by omega) (by omega) (by omega) (by omega)).mono ?_
            rintro e w9 ⟨j, rfl, j0, j1, hc9, ho9⟩
            have X9 := Lib.hid (ho9.own X8.out hlt0)
            have O9 := Lib.hid (O8.out.trans ho9)
            clear ho9 hc8
            obtain ⟨j, rfl⟩ := Int.eq_ofNat_of_zero_le j0
            have hj : j < L.length := by omega
            go_wp2_with fail
            refine (anySpot_any g (k + 6 + L.length * 12 + 2 + 2) _ hc9 (by omega)).mono ?_
            rintro e w10 ⟨x, y, rfl, x0, x1, y0, y1, hc10, ho10⟩
            have X10 := Lib.hid (ho10.own X9.out hlt0)
            have O10 := Lib.hid (O9.out.trans ho10)
            have C10 := Lib.hid hc10
            have hz10 : w.heap.size ≤ w10.heap.size := O10.out.size
            clear ho10 hc9 hc10
            obtain ⟨q, rfl, hq1, hq2⟩ := own_addr X10.out (by omega)
            have fz0 := X10.out.frozenAt (j * 2)
            have fz1 := X10.out.frozenAt (j * 2 + 1)
            obtain ⟨t0, ht0⟩ := some_of_lt hj
            have hcx := X10.out.cellAt (j * 2) (by omega)
            have hcy := X10.out.cellAt (j * 2 + 1) (by omega)
            obtain ⟨_, _, eq1, hcx1, hcx2⟩ := Mem.spot (Mem.of_own X10.out) ht0
            cases eq1
            rw [Nat.zero_add] at hcx1 hcx2
            clear hcx hcy ht0
            go_wp2
            go_ret
            have st1 := (X10.out.stored (j * 2) (.int .i64 x)).1
            have st2 := (st1.stored (j * 2 + 1) (.int .i64 y)).1
            rw [← spots_set L j ⟨x, y⟩] at st2
            refine ⟨some ⟨q, 0, none⟩, c', L.set j ⟨x, y⟩, by rw [List.length_set]; rfl, ?_, by rw [List.length_set]; exact hl, ?_, ?_, ?_⟩
            · rw [List.length_set]; exact st2
            · intro s hs
              rcases List.mem_or_eq_of_mem_set hs with hs | hs
              · exact HL.out s hs
              · subst hs; exact ⟨show -1 ≤ x by omega, show x ≤ 1281 by omega, show -1 ≤ y by omega, show y ≤ 673 by omega⟩
            · exact ((C10.out.put1 (by show g < q; omega)).put1 (by show g < q; omega)).mono (by omega)
            · exact (O10.out.set (.inr hq1) _).set (.inr hq1) _
        · clear hcur
          go_wp2
          go_ret
          exact ⟨A', c', L, rfl, HX.out, hl, HL.out, hCu.out.mono (by omega), HOt.out⟩
  · go_wp2_with fail
    refine (pick_any g (k + 2 + 2) _ _ 1 hc2 (by omega) (by omega) (by omega) (by omega)).mono ?_
    rintro e w3 ⟨n', rfl, n0', n1', hc3, ho3⟩
    have HO := Lib.hid (O2.out.trans ho3)
    have HC := Lib.hid hc3
    clear ho3 hc2 hc3
    have m0 : 0 ≤ 40 + n' := by omega
    have m1 : 40 + n' ≤ 41 := by omega
    go_wp2
    generalize 40 + n' = m at *
    go_loopw [3] (fun v wr => ∃ L : List Sp, (L.length : Int) ≤ m ∧ wr.ownsRow w.heap.size 25 2 v L.length (spots L) ∧ (∀ s ∈ L, smSp s) ∧ Cur wr g (k + 6 + L.length * 12) ∧ Oth g w wr) (fun v _ => 64 - lenOf v)
    case atStart => exact ⟨[], by simpa using m0, World.ownsRow_nil _ _ _ _, (fun s h => by simp at h), by simpa using (HC.out.mono (by omega)), HO.out⟩
    case round =>
      obtain ⟨L, hk0, hown, hL, hcur, hoth⟩ := hrel
      obtain ⟨A', c', rfl⟩ := own_form hown
      have HX := Lib.hid hown
      have HL := Lib.hid hL
      have HOt := Lib.hid hoth
      clear hown hL hoth
      by_cases hlt : (L.length : Int) < m
      · go_wp2_with fail
        refine (spot_any g (k + 6 + L.length * 12) _ hcur (by omega)).mono ?_
        rintro e w6 ⟨x, y, rfl, x0, x1, y0, y1, hc6, ho6⟩
        have HX6 := Lib.hid (ho6.own HX.out hlt0)
        have HO6 := Lib.hid (HOt.out.trans ho6)
        have hc6' := Lib.hid hc6
        have hz6 : w.heap.size ≤ w6.heap.size := HO6.out.size
        clear hcur ho6 hc6
        go_wp2_with (at_builtin; refine wpList_append_one _ rfl (.tmp 16) (.tmp 19) 31 rfl w.heap.size 25 i0 (.agg #[.int .i64 0, .int .i64 0]) 2 16 Try.underlying31 hi hz0 hz1 hz2 rfl (by omega) _ _ _ rfl HX6.out _ _ _ rfl rfl rfl (by omega) (by omega) (by omega) ?_; intro v' w7 hown' hb7)
        go_roundw
        case rel =>
          refine ⟨L ++ [⟨x, y⟩], by simp; omega, ?_, ?_, ?_, ?_⟩
          · rw [spots_snoc]; simpa using hown'
          · intro s hs
            rcases List.mem_append.1 hs with hs | hs
            · exact HL.out s hs
            · simp at hs; subst hs; exact ⟨show -1 ≤ x by omega, show x ≤ 1281 by omega, show -1 ≤ y by omega, show y ≤ 673 by omega⟩
          · exact (hc6'.out.below hb7 hlt0).mono (by simp; omega)
          · exact Oth.of_base hb7 (by omega) HO6.out
        case measure =>
          obtain ⟨A'', c'', rfl⟩ := own_form hown'
          simp [lenOf]; omega
      · have hl : L.length ≤ 41 := by omega
        have hCu := Lib.hid hcur
        by_cases hm : 0 < m
        · go_wp2_with fail
          refine (one_any g (k + 6 + L.length * 12) _ _ hcur (by omega) (by omega)).mono ?_
          rintro e w8 ⟨b8, rfl, hc8, ho8⟩
          have X8 := Lib.hid (ho8.own HX.out hlt0)
          have O8 := Lib.hid (HOt.out.trans ho8)
          clear ho8 hcur
          cases b8
          · have C8 := Lib.hid hc8
            clear hc8
            go_wp2
            go_ret
            exact ⟨A', c', L, rfl, X8.out, hl, HL.out, C8.out.mono (by omega), O8.out⟩
          · go_wp2_with fail
            refine (pick_any g (k + 6 + L.length * 12 + 2) _ _ (m - 1) hc8 (by omega) (by omega) (by omega) (by omega)).mono ?_
            rintro e w9 ⟨j, rfl, j0, j1, hc9, ho9⟩
            have X9 := Lib.hid (ho9.own X8.out hlt0)
            have O9 := Lib.hid (O8.out.trans ho9)
            clear ho9 hc8
            obtain ⟨j, rfl⟩ := Int.eq_ofNat_of_zero_le j0
            have hj : j < L.length := by omega
            go_wp2_with fail
            refine (anySpot_any g (k + 6 + L.length * 12 + 2 + 2) _ hc9 (by omega)).mono ?_
            rintro e w10 ⟨x, y, rfl, x0, x1, y0, y1, hc10, ho10⟩
            have X10 := Lib.hid (ho10.own X9.out hlt0)
            have O10 := Lib.hid (O9.out.trans ho10)
            have C10 := Lib.hid hc10
            have hz10 : w.heap.size ≤ w10.heap.size := O10.out.size
            clear ho10 hc9 hc10
            obtain ⟨q, rfl, hq1, hq2⟩ := own_addr X10.out (by omega)
            have fz0 := X10.out.frozenAt (j * 2)
            have fz1 := X10.out.frozenAt (j * 2 + 1)
            obtain ⟨t0, ht0⟩ := some_of_lt hj
            have hcx := X10.out.cellAt (j * 2) (by omega)
            have hcy := X10.out.cellAt (j * 2 + 1) (by omega)
            obtain ⟨_, _, eq1, hcx1, hcx2⟩ := Mem.spot (Mem.of_own X10.out) ht0
            cases eq1
            rw [Nat.zero_add] at hcx1 hcx2
            clear hcx hcy ht0
            go_wp2
            go_ret
            have st1 := (X10.out.stored (j * 2) (.int .i64 x)).1
            have st2 := (st1.stored (j * 2 + 1) (.int .i64 y)).1
            rw [← spots_set L j ⟨x, y⟩] at st2
            refine ⟨some ⟨q, 0, none⟩, c', L.set j ⟨x, y⟩, by rw [List.length_set]; rfl, ?_, by rw [List.length_set]; exact hl, ?_, ?_, ?_⟩
            · rw [List.length_set]; exact st2
            · intro s hs
              rcases List.mem_or_eq_of_mem_set hs with hs | hs
              · exact HL.out s hs
              · subst hs; exact ⟨show -1 ≤ x by omega, show x ≤ 1281 by omega, show -1 ≤ y by omega, show y ≤ 673 by omega⟩
            · exact ((C10.out.put1 (by show g < q; omega)).put1 (by show g < q; omega)).mono (by omega)
            · exact (O10.out.set (.inr hq1) _).set (.inr hq1) _
        · clear hcur
          go_wp2
          go_ret
          exact ⟨A', c', L, rfl, HX.out, hl, HL.out, hCu.out.mono (by omega), HOt.out⟩
end Go.Proofs.Ytdipmjflgjlfeaa
