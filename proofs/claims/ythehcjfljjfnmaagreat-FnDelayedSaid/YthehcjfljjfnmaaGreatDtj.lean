/-
  Draws: delays, least distances, a spot of the middle.
-/
import Derived.Test.YthehcjfljjfnmaaGreatDti
namespace Go.Proofs.YthehcjfljjfnmaaGreat
open Go.RowKit

/-- Cells in a block from 'base' on. -/
def MemO (w : World) (base : Nat) (A : Option Addr) (xs : List Value) : Prop :=
  xs ≠ [] → ∃ b off, A = some ⟨b, off, none⟩ ∧ base ≤ b ∧ ∀ j u, xs[j]? = some u → w.cell? ⟨b, off + j, none⟩ = some u
theorem MemO.mem {w : World} {base : Nat} {A : Option Addr} {xs : List Value} (h : MemO w base A xs) : Mem w A xs := fun hne => by
  obtain ⟨b, off, e, _, hc⟩ := h hne
  exact ⟨b, off, e, hc⟩
theorem MemO.oth {w w' : World} {g base : Nat} {A : Option Addr} {xs : List Value} (h : MemO w base A xs) (ho : Oth g w w') (hg : g < base) : MemO w' base A xs := fun hne => by
  obtain ⟨b, off, e, hb, hc⟩ := h hne
  refine ⟨b, off, e, hb, fun j u hu => ?_⟩
  have h1 := hc j u hu
  exact (World.cell?_of_block (a := ⟨b, off + j, none⟩) (ho.block b (World.block_lt_of_cell? w _ h1) (by omega))).trans h1
theorem MemO.below {w w' : World} {base : Nat} {A : Option Addr} {xs : List Value} (h : MemO w base A xs) (hb : Below w.heap.size w w') : MemO w' base A xs := fun hne => by
  obtain ⟨b, off, e, hb1, hc⟩ := h hne
  exact ⟨b, off, e, hb1, fun j u hu => (hb.cell (p := ⟨b, off + j, none⟩) (World.block_lt_of_cell? w _ (hc j u hu))).trans (hc j u hu)⟩
theorem MemO.of_own {w : World} {base : Nat} {e : TypeId} {size n c : Nat} {A : Option Addr} {xs : List Value} (h : w.ownsRow base e size (.slice A n c) n xs) : MemO w base A xs := fun hne => by
  obtain ⟨b, off, rfl, hc⟩ := Mem.of_own h hne
  rcases h.2 with ⟨h', _⟩ | ⟨g, cap, cur, h', hb, _⟩
  · simp at h'
  · simp only [Value.slice.injEq, Option.some.injEq, Addr.mk.injEq] at h'
    exact ⟨b, off, rfl, by omega, hc⟩
theorem MemO.base {w : World} {base base' : Nat} {A : Option Addr} {xs : List Value} (h : MemO w base A xs) (hb : base' ≤ base) : MemO w base' A xs := fun hne => by
  obtain ⟨b, off, e, h1, hc⟩ := h hne
  exact ⟨b, off, e, by omega, hc⟩
theorem MemO.put2 {w : World} {base b : Nat} {A : Option Addr} {xs : List Value} {u v : Value} (h : MemO w base A xs) (hb : b < base) : MemO ((w.setCell ⟨b, 0, none⟩ u).setCell ⟨b, 1, none⟩ v) base A xs :=
  h.oth (g := b) (((Oth.refl b w).set (.inl rfl) _).set (.inl rfl) _) hb
theorem ints_tail (O : List Int) (j : Nat) : (ints O.tail)[j]? = (ints O)[j + 1]? := by
  cases O with
  | nil => simp [ints]
  | cons x O => simp [ints]
theorem own_capO {w : World} {base : Nat} {e : TypeId} {size : Nat} {A : Option Addr} {n c : Nat} {xs : List Value} (h : w.ownsRow base e size (.slice A n c) n xs) : n ≤ c := by
  rcases h.2 with ⟨h1, h2⟩ | ⟨g, cap, cur, h1, _, _, h3, _⟩
  · omega
  · simp only [Value.slice.injEq] at h1
    omega
def okDel (O : List Int) : Prop := O.length ≤ 41 ∧ ∀ x ∈ O, -1 ≤ x ∧ x ≤ 5
/-- Delays are drawn. -/
def Ddl (g k : Nat) (w : World) (e : Ending) (w' : World) : Prop :=
  ∃ (A' : Option Addr) (c' : Nat) (O : List Int), e = .returned (.slice A' O.length c') ∧ MemO w' w.heap.size A' (ints O) ∧ okDel O ∧ O.length ≤ c' ∧ Cur w' g k ∧ Oth g w w'

set_option maxRecDepth 100000 in
set_option maxHeartbeats 1600000 in
theorem delaysFor_any (g k : Nat) (n : Nat) (w : World) (h : Cur w g k) (hk : k ≤ 500000) (hn : n ≤ 41) : Calls Tryz.prog 64 #[.pointer (some ⟨g, 0, none⟩), .int .i64 n] w (Ddl g (k + 200) w) := by
  obtain ⟨i0, hi, hz0, hz1, hz2⟩ := info_parts info_int
  have hlt0 := h.lt
  have HC0 := Lib.hid h
  clear h
  go_enter Tryz.func64, Tryz.ntmps64
  go_wp2
  go_loopw [5] (fun v wr => ∃ O : List Int, O.length ≤ n ∧ wr.ownsRow w.heap.size 3 1 v O.length (ints O) ∧ (∀ x ∈ O, 0 ≤ x ∧ x ≤ 4) ∧ Cur wr g (k + O.length * 4) ∧ Oth g w wr) (fun v _ => 64 - lenOf v)
  case atStart => exact ⟨[], by simp, World.ownsRow_nil _ _ _ _, (fun s h => by simp at h), by simpa using HC0.out, Oth.refl _ _⟩
  case round =>
    obtain ⟨O, hk0, hown, hO, hcur, hoth⟩ := hrel
    obtain ⟨A', c', rfl⟩ := own_form hown
    have HX := Lib.hid hown
    have HL := Lib.hid hO
    have HOt := Lib.hid hoth
    clear hown hO hoth HC0
    by_cases hlt : O.length < n
    · go_wp2_with fail
      refine (among_any g (k + O.length * 4) _ _ _ _ [0, 0, 1, 2, 4] 0 4 _ (hcur.alloc _) (by omega) (Blk.new _ _ _) rfl rfl (by have := hcur.lt; omega) (by simp) (by simp) (by simp)).mono ?_
      rintro e w7 ⟨y, rfl, y0, y1, hc7, ho7⟩
      have X7 := Lib.hid (ho7.own (HX.out.alloc _) hlt0)
      have O7 := Lib.hid ((HOt.out.alloc _).trans ho7)
      have C7 := Lib.hid hc7
      have hz7 : w.heap.size ≤ w7.heap.size := O7.out.size
      clear ho7 hcur hc7
      go_wp2_with (at_builtin; refine wpList_append_one _ rfl (.tmp 10) (.tmp 14) 32 rfl w.heap.size 3 i0 (.int .i64 0) 1 8 Tryz.underlying32 hi hz0 hz1 hz2 rfl (by omega) _ _ _ rfl X7.out _ _ _ rfl rfl rfl (by omega) (by omega) (by omega) ?_; intro v' w8 hown' hb8)
      go_roundw
      case rel =>
        refine ⟨O ++ [y], by simp; omega, ?_, ?_, ?_, Oth.of_base hb8 (by omega) O7.out⟩
        · rw [ints_snoc]; simpa using hown'
        · intro s hs
          rcases List.mem_append.1 hs with hs | hs
          · exact HL.out s hs
          · simp at hs; subst hs; exact ⟨y0, y1⟩
        · exact (C7.out.below hb8 hlt0).mono (by simp; omega)
      case measure =>
        obtain ⟨A'', c'', rfl⟩ := own_form hown'
        simp [lenOf]; omega
    · have hOk : okDel O := ⟨by omega, fun x hx => by have := HL.out x hx; omega⟩
      have HOK := Lib.hid hOk
      clear hOk
      by_cases hn0 : n = 0
      · subst hn0
        have HC := Lib.hid hcur
        clear hcur
        go_wp2
        go_ret
        exact ⟨A', c', O, rfl, MemO.of_own HX.out, HOK.out, own_capO HX.out, HC.out.mono (by omega), HOt.out⟩
      · have hn1 : 0 < n := by omega
        go_wp2_with fail
        refine (pick_any g (k + O.length * 4) _ _ 19 hcur (by omega) (by omega) (by omega) (by omega)).mono ?_
        rintro e w6 ⟨x, rfl, x0, x1, hc6, ho6⟩
        have X6 := Lib.hid (ho6.own HX.out hlt0)
        have O6 := Lib.hid (HOt.out.trans ho6)
        have zg := hc6.lt
        clear ho6 hcur
        by_cases h0 : x = 0
        · subst h0
          go_wp2_with fail
          refine (among_any g (k + O.length * 4 + 2) _ _ _ _ [-1, 5] (-1) 5 _ (hc6.alloc _) (by omega) (Blk.new _ _ _) rfl rfl (by omega) (by simp) (by simp) (by simp)).mono ?_
          rintro e w7 ⟨y, rfl, y0, y1, hc7, ho7⟩
          have X7 := Lib.hid (ho7.own (X6.out.alloc _) hlt0)
          have O7 := Lib.hid ((O6.out.alloc _).trans ho7)
          have C7 := Lib.hid hc7
          clear ho7 hc6 hc7
          have hOl : 0 < O.length := by omega
          obtain ⟨q, rfl, hq1, hq2⟩ := own_addr X7.out hOl
          have fz := X7.out.frozenAt 0
          obtain ⟨t0, ht0⟩ := some_of_lt hOl
          obtain ⟨_, _, eq1, hcx⟩ := Mem.int (Mem.of_own X7.out) ht0
          cases eq1
          simp only [Nat.zero_add] at hcx
          clear ht0
          go_wp2
          go_ret
          have st := (X7.out.stored 0 (.int .i64 y)).1
          rw [← ints_set O 0 y] at st
          refine ⟨some ⟨q, 0, none⟩, c', O.set 0 y, by rw [List.length_set]; rfl, MemO.of_own (n := O.length) (c := c') st, ?_, by rw [List.length_set]; exact own_capO st, ?_, ?_⟩
          · refine ⟨by rw [List.length_set]; exact HOK.out.1, fun s hs => ?_⟩
            rcases List.mem_or_eq_of_mem_set hs with hs | hs
            · exact HOK.out.2 s hs
            · subst hs; exact ⟨y0, y1⟩
          · exact (C7.out.put1 (by show g < q; omega)).mono (by omega)
          · exact O7.out.set (.inr hq1) _
        · have h0' : (x == 0) = false := beq_eq_false_iff_ne.2 h0
          by_cases h1 : x = 1
          · subst h1
            have HC := Lib.hid hc6
            clear hc6
            have hOl : 0 < O.length := by omega
            have hcap : O.length ≤ c' := own_capO X6.out
            obtain ⟨q, rfl, hq1, hq2⟩ := own_addr X6.out hOl
            have hmem := MemO.of_own X6.out
            have HM := Lib.hid hmem
            clear hmem
            by_cases hc1 : c' = 1
            · subst hc1
              go_wp2
              go_ret
              have e1 : O.length = 1 := by omega
              refine ⟨some ⟨q, 0, none⟩, 0, [], ?_, fun hne => absurd rfl hne, ⟨by simp, fun x hx => by cases hx⟩, by simp, HC.out.mono (by omega), O6.out⟩
              simp [e1]
            · have hc2 : 1 < c' := by omega
              go_wp2
              go_ret
              refine ⟨some ⟨q, 1, none⟩, c' - 1, O.tail, ?_, fun hne => ?_, ⟨by have := HOK.out.1; simp; omega, fun x hx => HOK.out.2 x (List.mem_of_mem_tail hx)⟩, by simp; omega, HC.out.mono (by omega), O6.out⟩
              · simp
              · obtain ⟨b, off, e1, hb1, hcc⟩ := HM.out (by intro e; rw [show O = [] by cases O with | nil => rfl | cons a b => simp [ints] at e] at hOl; simp at hOl)
                cases e1
                refine ⟨q, 1, rfl, hb1, fun j u hu => ?_⟩
                rw [ints_tail] at hu
                have := hcc (j + 1) u hu
                rwa [show 0 + (j + 1) = 1 + j by omega] at this
          · have h1' : (x == 1) = false := beq_eq_false_iff_ne.2 h1
            have HC := Lib.hid hc6
            clear hc6
            go_wp2
            go_ret
            exact ⟨A', c', O, rfl, MemO.of_own X6.out, HOK.out, own_capO X6.out, HC.out.mono (by omega), O6.out⟩

set_option maxRecDepth 100000 in
theorem leastDistance_any (g k : Nat) (w : World) (h : Cur w g k) (hk : k ≤ 500000) : Calls Tryz.prog 65 #[.pointer (some ⟨g, 0, none⟩)] w (Dn g (k + 6) (-1) 81 w) := by
  have hlt0 := h.lt
  go_enter Tryz.func65, Tryz.ntmps65
  go_wp2_with fail
  refine (pick_any g k _ _ 80 h (by omega) (by omega) (by omega) (by omega)).mono ?_
  rintro e w1 ⟨x, rfl, x0, x1, hc1, ho1⟩
  have O1 := Lib.hid ho1
  have z1 := hc1.lt
  clear ho1 h
  go_wp2_with fail
  refine (among_any g (k + 2) _ _ _ _ [80, 81, -1] (-1) 81 _ (hc1.alloc _) (by omega) (Blk.new _ _ _) rfl rfl (by omega) (by simp) (by simp) (by simp)).mono ?_
  rintro e w2 ⟨y, rfl, y0, y1, hc2, ho2⟩
  have O2 := Lib.hid ((O1.out.alloc _).trans ho2)
  have z2 := hc2.lt
  clear ho2 hc1
  go_wp2_with fail
  refine (among_any g (k + 2 + 2) _ _ _ _ [0, 1, 8, 16, 24, x, y] (-1) 81 _ (hc2.alloc _) (by omega) (Blk.new _ _ _) rfl rfl (by omega) (by simp) (by simp) (by simp; omega)).mono ?_
  rintro e w3 ⟨z, rfl, q0, q1, hc3, ho3⟩
  have O3 := Lib.hid ((O2.out.alloc _).trans ho3)
  have HC := Lib.hid hc3
  clear ho3 hc2 hc3
  go_wp2
  go_ret
  exact ⟨z, rfl, q0, q1, HC.out, O3.out⟩

/-- A spot of the middle is drawn. -/
def Dsp (g k : Nat) (w : World) (e : Ending) (w' : World) : Prop := ∃ x y : Int, e = .returned (.agg #[.int .i64 x, .int .i64 y]) ∧ 400 ≤ x ∧ x ≤ 799 ∧ 250 ≤ y ∧ y ≤ 349 ∧ Cur w' g k ∧ Oth g w w'
set_option maxRecDepth 100000 in
theorem inner_any (g k : Nat) (w : World) (h : Cur w g k) (hk : k ≤ 500000) : Calls Tryz.prog 86 #[.pointer (some ⟨g, 0, none⟩)] w (Dsp g (k + 4) w) := by
  have hlt0 := h.lt
  have HZ := Lib.hid (Blk.new w #[.int .i64 0, .int .i64 0] 24)
  have HO := Lib.hid ((Oth.refl g w).alloc (.cells #[.int .i64 0, .int .i64 0] 24))
  have HC := Lib.hid (h.alloc (.cells #[.int .i64 0, .int .i64 0] 24))
  clear h
  go_enter Tryz.func86, Tryz.ntmps86
  go_wp2_with fail
  generalize (w.alloc (.cells #[.int .i64 0, .int .i64 0] 24)) = W0 at *
  refine (pick_any g k 400 _ 399 HC.out (by omega) (by omega) (by omega) (by omega)).mono ?_
  rintro e w1 ⟨x, rfl, x0, x1, hc1, ho1⟩
  have O1 := Lib.hid (HO.out.trans ho1)
  have Z1 := Lib.hid (ho1.blk HZ.out (by omega))
  clear ho1 HO HZ HC
  go_wp2_with fail
  refine (pick_any g (k + 2) 100 _ 99 hc1 (by omega) (by omega) (by omega) (by omega)).mono ?_
  rintro e w2 ⟨y, rfl, y0, y1, hc2, ho2⟩
  have O2 := Lib.hid (O1.out.trans ho2)
  have Z2 := Lib.hid (ho2.blk Z1.out (by omega))
  have C2 := Lib.hid hc2
  clear ho2 O1 Z1 hc1 hc2
  have z0 := Z2.out.cell 0
  have z1 := Z2.out.cell 1
  simp only [List.getElem?_toArray, List.getElem?_cons_zero, List.getElem?_cons_succ] at z0 z1
  have f0 := Z2.out.frozen 0
  have f1 := Z2.out.frozen 1
  have G := Lib.hid (Z2.out.set2 (.int .i64 (400 + x)) (.int .i64 (250 + y)))
  have G2 := Lib.hid ((C2.out.put1 (p := ⟨w.heap.size, 0, none⟩) (u := .int .i64 (400 + x)) hlt0).put1 (p := ⟨w.heap.size, 1, none⟩) (u := .int .i64 (250 + y)) hlt0)
  have G3 := Lib.hid ((O2.out.set (p := ⟨w.heap.size, 0, none⟩) (.inr (Nat.le_refl _)) (.int .i64 (400 + x))).set (p := ⟨w.heap.size, 1, none⟩) (.inr (Nat.le_refl _)) (.int .i64 (250 + y)))
  go_wp2_with fail
  generalize ((w2.setCell ⟨w.heap.size, 0, none⟩ (.int .i64 (400 + x))).setCell ⟨w.heap.size, 1, none⟩ (.int .i64 (250 + y))) = WF at G G2 G3 ⊢
  have C0 : WF.cell? ⟨w.heap.size, 0, none⟩ = some (.int .i64 (400 + x)) := G.out.cell 0
  have C1 : WF.cell? ⟨w.heap.size, 1, none⟩ = some (.int .i64 (250 + y)) := G.out.cell 1
  refine bodyPost_ret (v := .agg #[.int .i64 (400 + x), .int .i64 (250 + y)]) (by simp [results, Tryz.results86, go_sem, C0, C1]) rfl ?_
  exact ⟨400 + x, 250 + y, rfl, by omega, by omega, by omega, by omega, G2.out.mono (by omega), G3.out⟩
end Go.Proofs.YthehcjfljjfnmaaGreat
