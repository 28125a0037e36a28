/-
  The reference's draws: sources, times, and what the laws draw of them.
-/
import Derived.Test.YtdipmjflgjlfeaaDrx
import Derived.BigRegion
namespace Go.Proofs.Ytdipmjflgjlfeaa
open Go.RowKit

set_option maxRecDepth 100000 in
theorem sources_any (g k : Nat) (w : World) (h : Cur w g k) (hk : k ≤ 500000) : Calls Try.prog 89 #[.pointer (some ⟨g, 0, none⟩)] w (Dl g (k + 700) w) := by
  have hlt0 := h.lt
  go_enter Try.func89, Try.ntmps89
  go_wp2_with fail
  refine (spotList_any g k _ h (by omega)).mono ?_
  rintro e w1 ⟨A', c', L, rfl, ho, hl, hL, hc1, ho1⟩
  have HX := Lib.hid ho
  have HL := Lib.hid hL
  have O1 := Lib.hid ho1
  clear ho hL ho1 h
  cases L with
  | cons s L =>
    have HC := Lib.hid hc1
    clear hc1
    have hne : ((L.length : Int) + 1 == 0) = false := beq_eq_false_iff_ne.2 (by omega)
    go_wp2
    go_ret
    exact ⟨A', c', s :: L, rfl, HX.out, hl, HL.out, HC.out.mono (by omega), O1.out⟩
  | nil =>
    go_wp2_with fail
    refine (one_any g (k + 600) _ _ hc1 (by omega) (by omega)).mono ?_
    rintro e w2 ⟨b, rfl, hc2, ho2⟩
    have X2 := Lib.hid (ho2.own HX.out hlt0)
    have O2 := Lib.hid (O1.out.trans ho2)
    clear ho2 hc1
    cases b
    · go_wp2_with fail
      refine (spot_any g (k + 600 + 2) _ hc2 (by omega)).mono ?_
      rintro e w3 ⟨x, y, rfl, x0, x1, y0, y1, hc3, ho3⟩
      have O3 := Lib.hid (O2.out.trans ho3)
      have HC := Lib.hid hc3
      have hz : w.heap.size ≤ w3.heap.size := O3.out.size
      clear ho3 hc2 hc3
      go_wp2
      go_ret
      refine ⟨some ⟨w3.heap.size, 0, none⟩, 1, [⟨x, y⟩], rfl, ?_, by simp, ?_, (HC.out.alloc _).mono (by omega), O3.out.alloc _⟩
      · exact World.ownsRow_lit w3 #[.int .i64 x, .int .i64 y] 1 hz (by unfold maxLen; omega) rfl
      · intro s hs
        simp at hs; subst hs
        exact ⟨show -1 ≤ x by omega, show x ≤ 1281 by omega, show -1 ≤ y by omega, show y ≤ 673 by omega⟩
    · have HC := Lib.hid hc2
      clear hc2
      go_wp2
      go_ret
      exact ⟨A', c', [], rfl, X2.out, hl, HL.out, HC.out.mono (by omega), O2.out⟩

set_option maxRecDepth 100000 in
theorem thousandths_any (g k : Nat) (w : World) (h : Cur w g k) (hk : k ≤ 500000) : Calls Try.prog 88 #[.pointer (some ⟨g, 0, none⟩)] w (Dn g (k + 6) (-1) 1001 w) := by
  have hlt0 := h.lt
  go_enter Try.func88, Try.ntmps88
  go_wp2_with fail
  refine (pick_any g k _ _ 399 h (by omega) (by omega) (by omega) (by omega)).mono ?_
  rintro e w1 ⟨x, rfl, x0, x1, hc1, ho1⟩
  have O1 := Lib.hid ho1
  have z1 := hc1.lt
  clear ho1 h
  go_wp2_with fail
  refine (among_any g (k + 2) _ _ _ _ [1000, 1001, -1] (-1) 1001 _ (hc1.alloc _) (by omega) (Blk.new _ _ _) rfl rfl (by omega) (by simp) (by simp) (by simp)).mono ?_
  rintro e w2 ⟨y, rfl, y0, y1, hc2, ho2⟩
  have O2 := Lib.hid ((O1.out.alloc _).trans ho2)
  have z2 := hc2.lt
  clear ho2 hc1
  go_wp2_with fail
  refine (among_any g (k + 2 + 2) _ _ _ _ [0, 1, 5, 10, 50, 100, x, y] (-1) 1001 _ (hc2.alloc _) (by omega) (Blk.new _ _ _) rfl rfl (by omega) (by simp) (by simp) (by simp; omega)).mono ?_
  rintro e w3 ⟨z, rfl, q0, q1, hc3, ho3⟩
  have O3 := Lib.hid ((O2.out.alloc _).trans ho3)
  have HC := Lib.hid hc3
  clear ho3 hc2 hc3
  go_wp2
  go_ret
  exact ⟨z, rfl, q0, q1, HC.out, O3.out⟩

/-! What the laws draw. -/
def code (w : World) (A : Option Addr) (C : List Int) : Prop := Mem w A (bytes C) ∧ (∀ x ∈ C, 0 ≤ x ∧ x ≤ 255) ∧ C.length ≤ 9223372036854775807
theorem code.below {w w' : World} {A : Option Addr} {C : List Int} (h : code w A C) (hb : Below w.heap.size w w') : code w' A C := ⟨h.1.below hb, h.2⟩
theorem code.cur {w : World} {A : Option Addr} {c : Nat} {C : List Int} (h : code w A C) : Cur (w.alloc (.cells #[.slice A C.length c, .int .i64 0, .int .u64 0] 81)) w.heap.size 0 := Cur.new h.1 h.2.1 h.2.2
/-- Spots in memory of the call's own. -/
def ownL (w w' : World) (A' : Option Addr) (c' : Nat) (L : List Sp) : Prop := w'.ownsRow w.heap.size 25 2 (.slice A' L.length c') L.length (spots L) ∧ L.length ≤ 41 ∧ (∀ s ∈ L, smSp s)
def DrN (lo hi : Int) (w : World) (e : Ending) (w' : World) : Prop := ∃ n : Int, e = .returned (.int .i64 n) ∧ lo ≤ n ∧ n ≤ hi ∧ Below w.heap.size w w'
def DrL (w : World) (e : Ending) (w' : World) : Prop := ∃ A' c' L, e = .returned (.slice A' L.length c') ∧ ownL w w' A' c' L ∧ Below w.heap.size w w'
def DrLL (w : World) (e : Ending) (w' : World) : Prop := ∃ A' c' L B' d' M, e = .returned (.tuple #[.slice A' L.length c', .slice B' M.length d']) ∧ ownL w w' A' c' L ∧ ownL w w' B' d' M ∧ Below w.heap.size w w'
def DrLS (w : World) (e : Ending) (w' : World) : Prop := ∃ A' c' L x y, e = .returned (.tuple #[.slice A' L.length c', .agg #[.int .i64 x, .int .i64 y]]) ∧ ownL w w' A' c' L ∧ smSp ⟨x, y⟩ ∧ Below w.heap.size w w'
def DrLSN (lo hi : Int) (w : World) (e : Ending) (w' : World) : Prop := ∃ A' c' L x y n, e = .returned (.tuple #[.slice A' L.length c', .agg #[.int .i64 x, .int .i64 y], .int .i64 n]) ∧ ownL w w' A' c' L ∧ smSp ⟨x, y⟩ ∧ lo ≤ n ∧ n ≤ hi ∧ Below w.heap.size w w'
def DrSS (w : World) (e : Ending) (w' : World) : Prop := ∃ x y x' y' : Int, e = .returned (.tuple #[.agg #[.int .i64 x, .int .i64 y], .agg #[.int .i64 x', .int .i64 y']]) ∧ smSp ⟨x, y⟩ ∧ smSp ⟨x', y'⟩ ∧ Below w.heap.size w w'

set_option maxRecDepth 100000 in
theorem drawReachSquare_any (A : Option Addr) (c : Nat) (C : List Int) (w : World) (h : code w A C) : Calls Try.prog 21 #[.slice A C.length c] w (DrN (-1) 1001 w) := by
  have HK := Lib.hid h
  clear h
  go_enter Try.func21, Try.ntmps21
  go_wp2_with fail
  refine (thousandths_any _ 0 _ HK.out.cur (by omega)).mono ?_
  rintro e w1 ⟨x, rfl, x0, x1, hc1, ho1⟩
  have O1 := Lib.hid ho1
  clear ho1 hc1
  go_wp2
  go_ret
  exact ⟨x, rfl, x0, x1, ((Below.refl _ _).alloc (Nat.le_refl _) _).trans (O1.out.below (Nat.le_refl _) (by simp))⟩
set_option maxRecDepth 100000 in
theorem drawWorstPair_any (A : Option Addr) (c : Nat) (C : List Int) (w : World) (h : code w A C) : Calls Try.prog 33 #[.slice A C.length c] w (DrL w) := by
  have HK := Lib.hid h
  clear h
  go_enter Try.func33, Try.ntmps33
  go_wp2_with fail
  refine (sources_any _ 0 _ HK.out.cur (by omega)).mono ?_
  rintro e w1 ⟨A', c', L, rfl, ho, hl, hL, hc1, ho1⟩
  have HX := Lib.hid ho
  have HL := Lib.hid hL
  have O1 := Lib.hid ho1
  clear ho1 hc1 ho hL
  go_wp2
  go_ret
  exact ⟨A', c', L, rfl, ⟨own_base HX.out (by simp), hl, HL.out⟩, ((Below.refl _ _).alloc (Nat.le_refl _) _).trans (O1.out.below (Nat.le_refl _) (by simp))⟩
set_option maxRecDepth 100000 in
theorem drawBestListener_any (A : Option Addr) (c : Nat) (C : List Int) (w : World) (h : code w A C) : Calls Try.prog 24 #[.slice A C.length c] w (DrLL w) := by
  have HK := Lib.hid h
  clear h
  go_enter Try.func24, Try.ntmps24
  go_wp2_with fail
  refine (sources_any _ 0 _ HK.out.cur (by omega)).mono ?_
  rintro e w1 ⟨A', c', L, rfl, ho, hl, hL, hc1, ho1⟩
  have HX := Lib.hid ho
  have HL := Lib.hid hL
  have O1 := Lib.hid ho1
  have z1 : w.heap.size + 1 ≤ w1.heap.size := by simpa using ho1.size
  clear ho1 ho hL
  go_wp2_with fail
  refine (sources_any _ _ _ hc1 (by omega)).mono ?_
  rintro e w2 ⟨B', d', M, rfl, ho, hl2, hM, hc2, ho2⟩
  have X2 := Lib.hid (ho2.own HX.out (by simp))
  have Y2 := Lib.hid ho
  have HM := Lib.hid hM
  have O2 := Lib.hid (O1.out.trans ho2)
  clear ho2 hc1 hc2 ho hM
  go_wp2
  go_ret2
  exact ⟨A', c', L, B', d', M, rfl, ⟨own_base X2.out (by simp), hl, HL.out⟩, ⟨own_base Y2.out (by omega), hl2, HM.out⟩, ((Below.refl _ _).alloc (Nat.le_refl _) _).trans (O2.out.below (Nat.le_refl _) (by simp))⟩
/-- A result's box is written behind. -/
theorem own_set2 {w : World} {base b : Nat} {e : TypeId} {size : Nat} {v u1 u2 : Value} {n : Nat} {xs : List Value} (h : w.ownsRow base e size v n xs) (hb : b < base) : ((w.setCell ⟨b, 0, none⟩ u1).setCell ⟨b, 1, none⟩ u2).ownsRow base e size v n xs :=
  ownsRow_setCell_below (ownsRow_setCell_below h hb u1) hb u2
set_option maxRecDepth 100000 in
theorem drawHeardFirst_any (A : Option Addr) (c : Nat) (C : List Int) (w : World) (h : code w A C) : Calls Try.prog 79 #[.slice A C.length c] w (DrLS w) := by
  have hb0 : Below w.heap.size w (w.alloc (.cells #[.int .i64 0, .int .i64 0] 25)) := (Below.refl _ _).alloc (Nat.le_refl _) _
  have hcur := (h.below hb0).cur (c := c)
  have R0 := Lib.hid ((Blk.new w #[.int .i64 0, .int .i64 0] 25).alloc (.cells #[.slice A C.length c, .int .i64 0, .int .u64 0] 81))
  have HB := Lib.hid (hb0.alloc (by simp) (.cells #[.slice A C.length c, .int .i64 0, .int .u64 0] 81))
  rw [show (w.alloc (.cells #[.int .i64 0, .int .i64 0] 25)).heap.size = w.heap.size + 1 from by simp] at hcur
  clear h hb0
  go_enter Try.func79, Try.ntmps79
  go_wp2_with fail
  refine (sources_any _ 0 _ hcur (by omega)).mono ?_
  rintro e w1 ⟨A', c', L, rfl, ho, hl, hL, hc1, ho1⟩
  have HX := Lib.hid ho
  have HL := Lib.hid hL
  have O1 := Lib.hid ho1
  have R1 := Lib.hid (ho1.blk R0.out (by omega))
  have z1 : w.heap.size + 2 ≤ w1.heap.size := by simpa using ho1.size
  clear ho1 ho hL hcur
  go_wp2_with fail
  refine (anySpot_any _ _ _ hc1 (by omega)).mono ?_
  rintro e w2 ⟨x, y, rfl, x0, x1, y0, y1, hc2, ho2⟩
  have X2 := Lib.hid (ho2.own HX.out (by simp))
  have O2 := Lib.hid (O1.out.trans ho2)
  have R2 := Lib.hid (ho2.blk R1.out (by omega))
  clear ho2 hc1 hc2
  have f0 := R2.out.frozen 0
  have f1 := R2.out.frozen 1
  have e0 := R2.out.cell 0
  have e1 := R2.out.cell 1
  simp at e0 e1
  go_wp2
  refine bodyPost_ret (v := .tuple #[.slice A' L.length c', .agg #[.int .i64 x, .int .i64 y]]) (by simp [results, Try.results79, go_sem, e0, e1]) rfl ⟨A', c', L, x, y, rfl, ⟨own_base (own_set2 X2.out (by simp; omega)) (by simp; omega), hl, HL.out⟩, ⟨show -1 ≤ x by omega, show x ≤ 1281 by omega, show -1 ≤ y by omega, show y ≤ 673 by omega⟩, ?_⟩
  exact ((HB.out.trans (O2.out.below (B := w.heap.size) (by simp) (by simp))).setCell (Nat.le_refl _) _).setCell (Nat.le_refl _) _
set_option maxRecDepth 100000 in
theorem drawHeardWithin_any (A : Option Addr) (c : Nat) (C : List Int) (w : World) (h : code w A C) : Calls Try.prog 23 #[.slice A C.length c] w (DrLSN (-1) 1001 w) := by
  have hb0 : Below w.heap.size w (w.alloc (.cells #[.int .i64 0, .int .i64 0] 25)) := (Below.refl _ _).alloc (Nat.le_refl _) _
  have hcur := (h.below hb0).cur (c := c)
  have R0 := Lib.hid ((Blk.new w #[.int .i64 0, .int .i64 0] 25).alloc (.cells #[.slice A C.length c, .int .i64 0, .int .u64 0] 81))
  have HB := Lib.hid (hb0.alloc (by simp) (.cells #[.slice A C.length c, .int .i64 0, .int .u64 0] 81))
  rw [show (w.alloc (.cells #[.int .i64 0, .int .i64 0] 25)).heap.size = w.heap.size + 1 from by simp] at hcur
  clear h hb0
  go_enter Try.func23, Try.ntmps23
  go_wp2_with fail
  refine (sources_any _ 0 _ hcur (by omega)).mono ?_
  rintro e w1 ⟨A', c', L, rfl, ho, hl, hL, hc1, ho1⟩
  have HX := Lib.hid ho
  have HL := Lib.hid hL
  have O1 := Lib.hid ho1
  have R1 := Lib.hid (ho1.blk R0.out (by omega))
  have z1 : w.heap.size + 2 ≤ w1.heap.size := by simpa using ho1.size
  clear ho1 ho hL hcur
  go_wp2_with fail
  refine (anySpot_any _ _ _ hc1 (by omega)).mono ?_
  rintro e w2 ⟨x, y, rfl, x0, x1, y0, y1, hc2, ho2⟩
  have X2 := Lib.hid (ho2.own HX.out (by simp))
  have O2 := Lib.hid (O1.out.trans ho2)
  have R2 := Lib.hid (ho2.blk R1.out (by omega))
  clear ho2 hc1
  go_wp2_with fail
  refine (thousandths_any _ _ _ hc2 (by omega)).mono ?_
  rintro e w3 ⟨n, rfl, n0, n1, hc3, ho3⟩
  have X3 := Lib.hid (ho3.own X2.out (by simp))
  have O3 := Lib.hid (O2.out.trans ho3)
  have R3 := Lib.hid (ho3.blk R2.out (by omega))
  clear ho3 hc2 hc3
  have f0 := R3.out.frozen 0
  have f1 := R3.out.frozen 1
  have e0 := R3.out.cell 0
  have e1 := R3.out.cell 1
  simp at e0 e1
  go_wp2
  refine bodyPost_ret (v := .tuple #[.slice A' L.length c', .agg #[.int .i64 x, .int .i64 y], .int .i64 n]) (by simp [results, Try.results23, go_sem, e0, e1]) rfl ⟨A', c', L, x, y, n, rfl, ⟨own_base (own_set2 X3.out (by simp; omega)) (by simp; omega), hl, HL.out⟩, ⟨show -1 ≤ x by omega, show x ≤ 1281 by omega, show -1 ≤ y by omega, show y ≤ 673 by omega⟩, n0, n1, ?_⟩
  exact ((HB.out.trans (O3.out.below (B := w.heap.size) (by simp) (by simp))).setCell (Nat.le_refl _) _).setCell (Nat.le_refl _) _
set_option maxRecDepth 100000 in
theorem drawSpreadAt_any (A : Option Addr) (c : Nat) (C : List Int) (w : World) (h : code w A C) : Calls Try.prog 13 #[.slice A C.length c] w (DrLS w) := by
  have R0 := Lib.hid (Blk.new w #[.int .i64 0, .int .i64 0] 25)
  have hb0 : Below w.heap.size w (w.alloc (.cells #[.int .i64 0, .int .i64 0] 25)) := (Below.refl _ _).alloc (Nat.le_refl _) _
  have HK := Lib.hid (h.below hb0)
  have HB := Lib.hid hb0
  clear h hb0
  go_enter Try.func13, Try.ntmps13
  go_wp2_with fail
  refine (drawHeardFirst_any A c C _ HK.out).mono ?_
  rintro e w1 ⟨A', c', L, x, y, rfl, ⟨ho, hl, hL⟩, hs, hb⟩
  have R1 := Lib.hid (R0.out.below hb (by simp))
  have HX := Lib.hid ho
  have HL := Lib.hid hL
  have HS := Lib.hid hs
  have B1 := Lib.hid (HB.out.trans (hb.mono (B' := w.heap.size) (by simp)))
  clear ho hL hs hb
  have f0 := R1.out.frozen 0
  have f1 := R1.out.frozen 1
  have e0 := R1.out.cell 0
  have e1 := R1.out.cell 1
  simp at e0 e1
  go_wp2
  refine bodyPost_ret (v := .tuple #[.slice A' L.length c', .agg #[.int .i64 x, .int .i64 y]]) (by simp [results, Try.results13, go_sem, e0, e1]) rfl ⟨A', c', L, x, y, rfl, ⟨own_base (own_set2 HX.out (by simp)) (by simp), hl, HL.out⟩, HS.out, ?_⟩
  exact (B1.out.setCell (Nat.le_refl _) _).setCell (Nat.le_refl _) _
set_option maxRecDepth 100000 in
theorem drawCorrectedFor_any (A : Option Addr) (c : Nat) (C : List Int) (w : World) (h : code w A C) : Calls Try.prog 42 #[.slice A C.length c] w (DrLS w) := by
  have hb0 : Below w.heap.size w (w.alloc (.cells #[.int .i64 0, .int .i64 0] 25)) := (Below.refl _ _).alloc (Nat.le_refl _) _
  have hcur := (h.below hb0).cur (c := c)
  have R0 := Lib.hid ((Blk.new w #[.int .i64 0, .int .i64 0] 25).alloc (.cells #[.slice A C.length c, .int .i64 0, .int .u64 0] 81))
  have HB := Lib.hid (hb0.alloc (by simp) (.cells #[.slice A C.length c, .int .i64 0, .int .u64 0] 81))
  rw [show (w.alloc (.cells #[.int .i64 0, .int .i64 0] 25)).heap.size = w.heap.size + 1 from by simp] at hcur
  clear h hb0
  go_enter Try.func42, Try.ntmps42
  go_wp2_with fail
  refine (sources_any _ 0 _ hcur (by omega)).mono ?_
  rintro e w1 ⟨A', c', L, rfl, ho, hl, hL, hc1, ho1⟩
  have HX := Lib.hid ho
  have HL := Lib.hid hL
  have O1 := Lib.hid ho1
  have R1 := Lib.hid (ho1.blk R0.out (by omega))
  have z1 : w.heap.size + 2 ≤ w1.heap.size := by simpa using ho1.size
  clear ho1 ho hL hcur
  go_wp2_with fail
  refine (anySpot_any _ _ _ hc1 (by omega)).mono ?_
  rintro e w2 ⟨x, y, rfl, x0, x1, y0, y1, hc2, ho2⟩
  have X2 := Lib.hid (ho2.own HX.out (by simp))
  have O2 := Lib.hid (O1.out.trans ho2)
  have R2 := Lib.hid (ho2.blk R1.out (by omega))
  clear ho2 hc1 hc2
  have f0 := R2.out.frozen 0
  have f1 := R2.out.frozen 1
  have e0 := R2.out.cell 0
  have e1 := R2.out.cell 1
  simp at e0 e1
  go_wp2
  refine bodyPost_ret (v := .tuple #[.slice A' L.length c', .agg #[.int .i64 x, .int .i64 y]]) (by simp [results, Try.results42, go_sem, e0, e1]) rfl ⟨A', c', L, x, y, rfl, ⟨own_base (own_set2 X2.out (by simp; omega)) (by simp; omega), hl, HL.out⟩, ⟨show -1 ≤ x by omega, show x ≤ 1281 by omega, show -1 ≤ y by omega, show y ≤ 673 by omega⟩, ?_⟩
  exact ((HB.out.trans (O2.out.below (B := w.heap.size) (by simp) (by simp))).setCell (Nat.le_refl _) _).setCell (Nat.le_refl _) _
set_option maxRecDepth 100000 in
theorem drawTogetherAt_any (A : Option Addr) (c : Nat) (C : List Int) (w : World) (h : code w A C) : Calls Try.prog 36 #[.slice A C.length c] w (DrLSN (-1) 1001 w) := by
  have R0 := Lib.hid (Blk.new w #[.int .i64 0, .int .i64 0] 25)
  have hb0 : Below w.heap.size w (w.alloc (.cells #[.int .i64 0, .int .i64 0] 25)) := (Below.refl _ _).alloc (Nat.le_refl _) _
  have HK := Lib.hid (h.below hb0)
  have HB := Lib.hid hb0
  clear h hb0
  go_enter Try.func36, Try.ntmps36
  go_wp2_with fail
  refine (drawHeardWithin_any A c C _ HK.out).mono ?_
  rintro e w1 ⟨A', c', L, x, y, n, rfl, ⟨ho, hl, hL⟩, hs, n0, n1, hb⟩
  have R1 := Lib.hid (R0.out.below hb (by simp))
  have HX := Lib.hid ho
  have HL := Lib.hid hL
  have HS := Lib.hid hs
  have B1 := Lib.hid (HB.out.trans (hb.mono (B' := w.heap.size) (by simp)))
  clear ho hL hs hb
  have f0 := R1.out.frozen 0
  have f1 := R1.out.frozen 1
  have e0 := R1.out.cell 0
  have e1 := R1.out.cell 1
  simp at e0 e1
  go_wp2
  refine bodyPost_ret (v := .tuple #[.slice A' L.length c', .agg #[.int .i64 x, .int .i64 y], .int .i64 n]) (by simp [results, Try.results36, go_sem, e0, e1]) rfl ⟨A', c', L, x, y, n, rfl, ⟨own_base (own_set2 HX.out (by simp)) (by simp), hl, HL.out⟩, HS.out, n0, n1, ?_⟩
  exact (B1.out.setCell (Nat.le_refl _) _).setCell (Nat.le_refl _) _
set_option maxRecDepth 100000 in
theorem drawEvenCircle_any (A : Option Addr) (c : Nat) (C : List Int) (w : World) (h : code w A C) : Calls Try.prog 27 #[.slice A C.length c] w (DrLSN (-1) 1001 w) := by
  have R0 := Lib.hid (Blk.new w #[.int .i64 0, .int .i64 0] 25)
  have hb0 : Below w.heap.size w (w.alloc (.cells #[.int .i64 0, .int .i64 0] 25)) := (Below.refl _ _).alloc (Nat.le_refl _) _
  have HK := Lib.hid (h.below hb0)
  have HB := Lib.hid hb0
  clear h hb0
  go_enter Try.func27, Try.ntmps27
  go_wp2_with fail
  refine (drawHeardWithin_any A c C _ HK.out).mono ?_
  rintro e w1 ⟨A', c', L, x, y, n, rfl, ⟨ho, hl, hL⟩, hs, n0, n1, hb⟩
  have R1 := Lib.hid (R0.out.below hb (by simp))
  have HX := Lib.hid ho
  have HL := Lib.hid hL
  have HS := Lib.hid hs
  have B1 := Lib.hid (HB.out.trans (hb.mono (B' := w.heap.size) (by simp)))
  clear ho hL hs hb
  have f0 := R1.out.frozen 0
  have f1 := R1.out.frozen 1
  have e0 := R1.out.cell 0
  have e1 := R1.out.cell 1
  simp at e0 e1
  go_wp2
  refine bodyPost_ret (v := .tuple #[.slice A' L.length c', .agg #[.int .i64 x, .int .i64 y], .int .i64 n]) (by simp [results, Try.results27, go_sem, e0, e1]) rfl ⟨A', c', L, x, y, n, rfl, ⟨own_base (own_set2 HX.out (by simp)) (by simp), hl, HL.out⟩, HS.out, n0, n1, ?_⟩
  exact (B1.out.setCell (Nat.le_refl _) _).setCell (Nat.le_refl _) _
end Go.Proofs.Ytdipmjflgjlfeaa
