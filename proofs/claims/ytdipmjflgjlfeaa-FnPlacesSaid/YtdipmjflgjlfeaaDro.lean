/-
  The reference's draws: counts, and what the law of places draws.
-/
import Derived.Test.YtdipmjflgjlfeaaDrn
namespace Go.Proofs.Ytdipmjflgjlfeaa
open Go.RowKit

set_option maxRecDepth 100000 in
theorem countOf_any (g k : Nat) (A : Option Addr) (c : Nat) (L : List Ms) (w : World) (h : Cur w g k) (hk : k ≤ 400000) (hm : Mem w A (measures L)) (hl : L.length ≤ 41) : Calls Try.prog 105 #[.pointer (some ⟨g, 0, none⟩), .slice A L.length c] w (Dn g (k + 8) (-1) 501 w) := by
  have hlt0 := h.lt
  cases hok : musOk L
  · go_enter Try.func105, Try.ntmps105
    go_wp2_with fail
    refine (muGood_any A c L _ hm (by omega)).mono ?_
    rintro e w1 ⟨rfl, hq⟩
    rw [hok]
    have hc1 := h.below hq hlt0
    have O1 := Lib.hid (Oth.of_below (g := g) hq)
    clear hq h hok
    obtain ⟨lt, hlt⟩ : ∃ v : Int, v = 1 := ⟨_, rfl⟩
    go_wp2_with fail
    refine (pick_any g k _ _ 500 hc1 (by omega) (by omega) (by omega) (by omega)).mono ?_
    rintro e w2 ⟨x, rfl, x0, x1, hc2, ho2⟩
    have O2 := Lib.hid (O1.out.trans ho2)
    clear ho2
    go_wp2_with fail
    refine (pick_any g (k + 2) _ _ 500 hc2 (by omega) (by omega) (by omega) (by omega)).mono ?_
    rintro e w3 ⟨y, rfl, y0, y1, hc3, ho3⟩
    have O3 := Lib.hid (O2.out.trans ho3)
    have z3 := hc3.lt
    clear ho3 hc2
    go_wp2_with fail
    refine (among_any g (k + 2 + 2) _ _ _ _ [-1, 2] (-1) 501 _ (hc3.alloc _) (by omega) (Blk.new _ _ _) rfl rfl (by omega) (by simp) (by simp) (by simp; try omega)).mono ?_
    rintro e w4 ⟨z, rfl, a0, a1, hc4, ho4⟩
    have O4 := Lib.hid ((O3.out.alloc _).trans ho4)
    have z4 := hc4.lt
    clear ho4 hc3
    go_wp2_with fail
    refine (among_any g (k + 2 + 2 + 2) _ _ _ _ [0, x, y, 0, 1, z] (-1) 501 _ (hc4.alloc _) (by omega) (Blk.new _ _ _) rfl rfl (by omega) (by simp) (by simp) (by simp; omega)).mono ?_
    rintro e w5 ⟨r, rfl, b0, b1, hc5, ho5⟩
    have O5 := Lib.hid ((O4.out.alloc _).trans ho5)
    have C5 := Lib.hid hc5
    clear ho5 hc4 hc5
    go_wp2
    go_ret
    exact ⟨r, rfl, b0, b1, C5.out.mono (by omega), O5.out⟩
  · obtain ⟨g1, g2, g3⟩ := musOk_iff.1 hok
    have hcb := cnTo_bd g1 L.length (Nat.le_refl _)
    have HG := Lib.hid g1
    go_enter Try.func105, Try.ntmps105
    go_wp2_with fail
    refine (muGood_any A c L _ hm (by omega)).mono ?_
    rintro e w0 ⟨rfl, hq⟩
    rw [hok]
    have hc0 := h.below hq hlt0
    have hm0 := hm.below hq
    have O0 := Lib.hid (Oth.of_below (g := g) hq)
    have hlt1 := hc0.lt
    clear hq h hok hm g1
    go_wp2_with fail
    refine (muCounts_any A c L _ hm0 (by omega) HG.out).mono ?_
    rintro e w1 ⟨rfl, hq⟩
    have hc1 := hc0.below hq hlt1
    have O1 := Lib.hid (O0.out.trans (Oth.of_below (g := g) hq))
    clear hq hc0 hm0
    generalize cnTo L L.length = lt at *
    have hlt480 : lt ≤ 480 := by omega
    go_wp2_with fail
    refine (pick_any g k _ _ 500 hc1 (by omega) (by omega) (by omega) (by omega)).mono ?_
    rintro e w2 ⟨x, rfl, x0, x1, hc2, ho2⟩
    have O2 := Lib.hid (O1.out.trans ho2)
    clear ho2
    go_wp2_with fail
    refine (pick_any g (k + 2) _ _ 500 hc2 (by omega) (by omega) (by omega) (by omega)).mono ?_
    rintro e w3 ⟨y, rfl, y0, y1, hc3, ho3⟩
    have O3 := Lib.hid (O2.out.trans ho3)
    have z3 := hc3.lt
    clear ho3 hc2
    go_wp2_with fail
    refine (among_any g (k + 2 + 2) _ _ _ _ [-1, lt + 1] (-1) 501 _ (hc3.alloc _) (by omega) (Blk.new _ _ _) rfl rfl (by omega) (by simp) (by simp) (by simp; try omega)).mono ?_
    rintro e w4 ⟨z, rfl, a0, a1, hc4, ho4⟩
    have O4 := Lib.hid ((O3.out.alloc _).trans ho4)
    have z4 := hc4.lt
    clear ho4 hc3
    go_wp2_with fail
    refine (among_any g (k + 2 + 2 + 2) _ _ _ _ [0, x, y, lt - 1, lt, z] (-1) 501 _ (hc4.alloc _) (by omega) (Blk.new _ _ _) rfl rfl (by omega) (by simp) (by simp) (by simp; omega)).mono ?_
    rintro e w5 ⟨r, rfl, b0, b1, hc5, ho5⟩
    have O5 := Lib.hid ((O4.out.alloc _).trans ho5)
    have C5 := Lib.hid hc5
    clear ho5 hc4 hc5
    go_wp2
    go_ret
    exact ⟨r, rfl, b0, b1, C5.out.mono (by omega), O5.out⟩

def DrLOL (w : World) (e : Ending) (w' : World) : Prop := ∃ A' c' L B' d' O C' f' M, e = .returned (.tuple #[.slice A' L.length c', .slice B' O.length d', .slice C' M.length f']) ∧ ownL w w' A' c' L ∧ MemO w' w.heap.size B' (ints O) ∧ okOffs O ∧ ownL w w' C' f' M ∧ Below w.heap.size w w'
def DrLOLN (lo hi : Int) (w : World) (e : Ending) (w' : World) : Prop := ∃ A' c' L B' d' O C' f' M n, e = .returned (.tuple #[.slice A' L.length c', .slice B' O.length d', .slice C' M.length f', .int .i64 n]) ∧ ownL w w' A' c' L ∧ MemO w' w.heap.size B' (ints O) ∧ okOffs O ∧ ownL w w' C' f' M ∧ lo ≤ n ∧ n ≤ hi ∧ Below w.heap.size w w'
def DrLLS (w : World) (e : Ending) (w' : World) : Prop := ∃ A' c' L B' d' M x y, e = .returned (.tuple #[.slice A' L.length c', .slice B' M.length d', .agg #[.int .i64 x, .int .i64 y]]) ∧ ownL w w' A' c' L ∧ ownL w w' B' d' M ∧ smSp ⟨x, y⟩ ∧ Below w.heap.size w w'
def DrMNO (w : World) (e : Ending) (w' : World) : Prop := ∃ A' c' L n B' d' O, e = .returned (.tuple #[.slice A' L.length c', .int .i64 n, .slice B' O.length d']) ∧ w'.ownsRow w.heap.size 112 2 (.slice A' L.length c') L.length (measures L) ∧ L.length ≤ 41 ∧ -1 ≤ n ∧ n ≤ 501 ∧ MemO w' w.heap.size B' (ints O) ∧ okOffs O ∧ Below w.heap.size w w'
def DrON (lo hi : Int) (w : World) (e : Ending) (w' : World) : Prop := ∃ B' d' O n, e = .returned (.tuple #[.slice B' O.length d', .int .i64 n]) ∧ MemO w' w.heap.size B' (ints O) ∧ okOffs O ∧ lo ≤ n ∧ n ≤ hi ∧ Below w.heap.size w w'

set_option maxRecDepth 100000 in
theorem drawWorstListener_any (A : Option Addr) (c : Nat) (C : List Int) (w : World) (h : code w A C) : Calls Try.prog 55 #[.slice A C.length c] w (DrLOL w) := by
  have HK := Lib.hid h
  clear h
  go_enter Try.func55, Try.ntmps55
  go_wp2_with fail
  refine (sources_any _ 0 _ HK.out.cur (by omega)).mono ?_
  rintro e w1 ⟨A', c', L, rfl, ho, hl, hL, hc1, ho1⟩
  have HX := Lib.hid ho
  have HL := Lib.hid hL
  have O1 := Lib.hid ho1
  have z1 : w.heap.size + 1 ≤ w1.heap.size := by simpa using ho1.size
  clear ho1 ho hL
  go_wp2_with fail
  refine (offsetsFor_any _ _ _ _ hc1 (by omega) hl).mono ?_
  rintro e w2 ⟨B', d', O, rfl, hm, hok, hc2, ho2⟩
  have X2 := Lib.hid (ho2.own HX.out (by simp))
  have O2 := Lib.hid (O1.out.trans ho2)
  have M2 := Lib.hid hm
  have HO := Lib.hid hok
  have z2 : w1.heap.size ≤ w2.heap.size := ho2.size
  clear ho2 hc1 hm hok
  go_wp2_with fail
  refine (sources_any _ _ _ hc2 (by omega)).mono ?_
  rintro e w3 ⟨C', f', M, rfl, ho, hl3, hM, hc3, ho3⟩
  have X3 := Lib.hid (ho3.own X2.out (by simp))
  have O3 := Lib.hid (O2.out.trans ho3)
  have M3 := Lib.hid (M2.out.oth ho3 (by omega))
  have Y3 := Lib.hid ho
  have HM := Lib.hid hM
  clear ho3 hc2 hc3 ho hM
  go_wp2
  refine bodyPost_ret (v := .tuple #[.slice A' L.length c', .slice B' O.length d', .slice C' M.length f']) (by simp [results, Try.results55, go_sem]) rfl ⟨A', c', L, B', d', O, C', f', M, rfl, ⟨own_base X3.out (by simp), hl, HL.out⟩, M3.out.base (by omega), HO.out, ⟨own_base Y3.out (by omega), hl3, HM.out⟩, ?_⟩
  exact ((Below.refl _ _).alloc (Nat.le_refl _) _).trans (O3.out.below (Nat.le_refl _) (by simp))

set_option maxRecDepth 100000 in
theorem drawGoodPlaces_any (A : Option Addr) (c : Nat) (C : List Int) (w : World) (h : code w A C) : Calls Try.prog 58 #[.slice A C.length c] w (DrLOLN (-1) 4001 w) := by
  have hcur := h.cur (c := c)
  have hb0 : Below w.heap.size w (w.alloc (.cells #[.slice A C.length c, .int .i64 0, .int .u64 0] 81)) := (Below.refl _ _).alloc (Nat.le_refl _) _
  have HK := Lib.hid (h.below hb0)
  have HB := Lib.hid hb0
  have HCU := Lib.hid hcur
  clear h hb0 hcur
  go_enter Try.func58, Try.ntmps58
  go_wp2_with fail
  refine (drawWorstListener_any _ _ _ _ HK.out).mono ?_
  rintro e w1 ⟨A', c', L, B', d', O, C', f', M, rfl, ⟨ho, hl, hL⟩, hm, hok, ⟨ho2, hl2, hM⟩, hb1⟩
  have HX := Lib.hid ho
  have HY := Lib.hid ho2
  have HL := Lib.hid hL
  have HM := Lib.hid hM
  have HO := Lib.hid hok
  have HMO := Lib.hid hm
  have hc1 := HCU.out.below hb1 (by simp)
  have B1 := Lib.hid (HB.out.trans (hb1.mono (B' := w.heap.size) (by simp)))
  have z1 : w.heap.size + 1 ≤ w1.heap.size := by have := hb1.size; simpa using this
  clear ho ho2 hL hM hok hm hb1
  go_wp2_with fail
  refine (mostSpread_any _ 0 _ hc1 (by omega)).mono ?_
  rintro e w2 ⟨n, rfl, n0, n1, hc2, ho2⟩
  have X2 := Lib.hid (ho2.own HX.out (by simp))
  have Y2 := Lib.hid (ho2.own HY.out (by simp))
  have M2 := Lib.hid (HMO.out.oth ho2 (by simp))
  have B2 := Lib.hid (B1.out.trans (ho2.below (B := w.heap.size) (Nat.le_refl _) (by omega)))
  clear ho2 hc1 hc2
  go_wp2
  refine bodyPost_ret (v := .tuple #[.slice A' L.length c', .slice B' O.length d', .slice C' M.length f', .int .i64 n]) (by simp [results, Try.results58, go_sem]) rfl ⟨A', c', L, B', d', O, C', f', M, n, rfl, ⟨own_base X2.out (by simp), hl, HL.out⟩, M2.out.base (by simp), HO.out, ⟨own_base Y2.out (by simp), hl2, HM.out⟩, n0, n1, B2.out⟩

set_option maxRecDepth 100000 in
theorem drawBestConductor_any (A : Option Addr) (c : Nat) (C : List Int) (w : World) (h : code w A C) : Calls Try.prog 61 #[.slice A C.length c] w (DrLLS w) := by
  have hb0 : Below w.heap.size w (w.alloc (.cells #[.int .i64 0, .int .i64 0] 25)) := (Below.refl _ _).alloc (Nat.le_refl _) _
  have hcur := (h.below hb0).cur (c := c)
  have R0 := Lib.hid ((Blk.new w #[.int .i64 0, .int .i64 0] 25).alloc (.cells #[.slice A C.length c, .int .i64 0, .int .u64 0] 81))
  have HB := Lib.hid (hb0.alloc (by simp) (.cells #[.slice A C.length c, .int .i64 0, .int .u64 0] 81))
  rw [show (w.alloc (.cells #[.int .i64 0, .int .i64 0] 25)).heap.size = w.heap.size + 1 from by simp] at hcur
  clear h hb0
  go_enter Try.func61, Try.ntmps61
  go_wp2_with fail
  refine (sources_any _ 0 _ hcur (by omega)).mono ?_
  rintro e w1 ⟨A', c', L, rfl, ho, hl, hL, hc1, ho1⟩
  have HX := Lib.hid ho
  have HL := Lib.hid hL
  have O1 := Lib.hid ho1
  have R1 := Lib.hid (ho1.blk R0.out (by omega))
  have z1 : w.heap.size + 2 ≤ w1.heap.size := by simpa using ho1.size
  clear ho1 ho hL hcur
  go_wp2_with fail
  refine (sources_any _ _ _ hc1 (by omega)).mono ?_
  rintro e w2 ⟨B', d', M, rfl, ho, hl2, hM, hc2, ho2⟩
  have X2 := Lib.hid (ho2.own HX.out (by simp))
  have Y2 := Lib.hid ho
  have HM := Lib.hid hM
  have O2 := Lib.hid (O1.out.trans ho2)
  have R2 := Lib.hid (ho2.blk R1.out (by omega))
  clear ho2 hc1 ho hM
  go_wp2_with fail
  refine (anySpot_any _ _ _ hc2 (by omega)).mono ?_
  rintro e w3 ⟨x, y, rfl, x0, x1, y0, y1, hc3, ho3⟩
  have X3 := Lib.hid (ho3.own X2.out (by simp))
  have Y3 := Lib.hid (ho3.own Y2.out (by omega))
  have O3 := Lib.hid (O2.out.trans ho3)
  have R3 := Lib.hid (ho3.blk R2.out (by omega))
  clear ho3 hc2 hc3
  have f0 := R3.out.frozen 0
  have f1 := R3.out.frozen 1
  have e0 := R3.out.cell 0
  have e1 := R3.out.cell 1
  simp at e0 e1
  go_wp2
  refine bodyPost_ret (v := .tuple #[.slice A' L.length c', .slice B' M.length d', .agg #[.int .i64 x, .int .i64 y]]) (by simp [results, Try.results61, go_sem, e0, e1]) rfl ⟨A', c', L, B', d', M, x, y, rfl, ⟨own_base (own_set2 X3.out (by simp; omega)) (by simp; omega), hl, HL.out⟩, ⟨own_base (own_set2 Y3.out (by omega)) (by omega), hl2, HM.out⟩, ⟨show -1 ≤ x by omega, show x ≤ 1281 by omega, show -1 ≤ y by omega, show y ≤ 673 by omega⟩, ?_⟩
  exact ((HB.out.trans (O3.out.below (B := w.heap.size) (by simp) (by simp))).setCell (Nat.le_refl _) _).setCell (Nat.le_refl _) _

set_option maxRecDepth 100000 in
theorem drawEntryTimes_any (A : Option Addr) (c : Nat) (C : List Int) (w : World) (h : code w A C) : Calls Try.prog 64 #[.slice A C.length c] w (DrMNO w) := by
  have HK := Lib.hid h
  clear h
  go_enter Try.func64, Try.ntmps64
  go_wp2_with fail
  refine (anyMusic_any _ 0 _ HK.out.cur (by omega)).mono ?_
  rintro e w1 ⟨A', c', L, rfl, ho, hl, _, hL, hc1, ho1⟩
  have HX := Lib.hid ho
  have O1 := Lib.hid ho1
  have z1 : w.heap.size + 1 ≤ w1.heap.size := by simpa using ho1.size
  clear ho1 ho hL
  go_wp2_with fail
  refine (countOf_any _ _ _ _ _ _ hc1 (by omega) (Mem.of_own HX.out) hl).mono ?_
  rintro e w2 ⟨n, rfl, n0, n1, hc2, ho2⟩
  have X2 := Lib.hid (ho2.own HX.out (by simp))
  have O2 := Lib.hid (O1.out.trans ho2)
  have z2 : w1.heap.size ≤ w2.heap.size := ho2.size
  clear ho2 hc1
  go_wp2_with fail
  refine (among_any _ _ _ _ _ _ [0, 1, 3, 5, 40, 41] 0 41 _ (hc2.alloc _) (by omega) (Blk.new _ _ _) rfl rfl (by omega) (by simp) (by simp) (by simp)).mono ?_
  rintro e w3 ⟨m, rfl, m0, m1, hc3, ho3⟩
  obtain ⟨m, rfl⟩ := Int.eq_ofNat_of_zero_le m0
  have X3 := Lib.hid (ho3.own (X2.out.alloc _) (by simp))
  have O3 := Lib.hid ((O2.out.alloc _).trans ho3)
  have z3 : w2.heap.size ≤ w3.heap.size := by have := ho3.size; simp at this; omega
  clear ho3 hc2
  go_wp2_with fail
  refine (offsetsFor_any _ _ _ _ hc3 (by omega) (by omega)).mono ?_
  rintro e w4 ⟨B', d', O, rfl, hm, hok, hc4, ho4⟩
  have X4 := Lib.hid (ho4.own X3.out (by simp))
  have O4 := Lib.hid (O3.out.trans ho4)
  have M4 := Lib.hid hm
  have HO := Lib.hid hok
  clear ho4 hc3 hc4 hm hok
  go_wp2
  refine bodyPost_ret (v := .tuple #[.slice A' L.length c', .int .i64 n, .slice B' O.length d']) (by simp [results, Try.results64, go_sem]) rfl ⟨A', c', L, n, B', d', O, rfl, own_base X4.out (by simp), hl, n0, n1, M4.out.base (by omega), HO.out, ?_⟩
  exact ((Below.refl _ _).alloc (Nat.le_refl _) _).trans (O4.out.below (Nat.le_refl _) (by simp))

set_option maxRecDepth 100000 in
theorem drawShiftOffsets_any (A : Option Addr) (c : Nat) (C : List Int) (w : World) (h : code w A C) : Calls Try.prog 67 #[.slice A C.length c] w (DrON (-2001) 2001 w) := by
  have hcur := h.cur (c := c)
  have hb0 : Below w.heap.size w (w.alloc (.cells #[.slice A C.length c, .int .i64 0, .int .u64 0] 81)) := (Below.refl _ _).alloc (Nat.le_refl _) _
  have HK := Lib.hid (h.below hb0)
  have HB := Lib.hid hb0
  have HCU := Lib.hid hcur
  clear h hb0 hcur
  go_enter Try.func67, Try.ntmps67
  go_wp2_with fail
  refine (drawAreOffsets_any _ _ _ _ HK.out).mono ?_
  rintro e w1 ⟨B', d', O, rfl, hm, hok, hb1⟩
  have HO := Lib.hid hok
  have HMO := Lib.hid hm
  have hc1 := HCU.out.below hb1 (by simp)
  have B1 := Lib.hid (HB.out.trans (hb1.mono (B' := w.heap.size) (by simp)))
  have z1 : w.heap.size + 1 ≤ w1.heap.size := by have := hb1.size; simpa using this
  clear hok hm hb1
  go_wp2_with fail
  refine (among_any _ 0 _ _ _ _ [2001, -2001] (-2001) 2001 _ (hc1.alloc _) (by omega) (Blk.new _ _ _) rfl rfl (by omega) (by simp) (by simp) (by simp)).mono ?_
  rintro e w2 ⟨x, rfl, x0, x1, hc2, ho2⟩
  have M2 := Lib.hid (HMO.out.oth ((Oth.of_below (g := w.heap.size) ((Below.refl _ w1).alloc (Nat.le_refl _) _)).trans ho2) (by simp))
  have B2 := Lib.hid ((B1.out.alloc (by omega) _).trans (ho2.below (B := w.heap.size) (Nat.le_refl _) (by simp; omega)))
  have z2 : w1.heap.size ≤ w2.heap.size := by have := ho2.size; simp at this; omega
  clear ho2 hc1
  go_wp2_with fail
  refine (among_any _ _ _ _ _ _ [0, 1, -5, 1900, -2000, 2000, x] (-2001) 2001 _ (hc2.alloc _) (by omega) (Blk.new _ _ _) rfl rfl (by omega) (by simp) (by simp) (by simp; omega)).mono ?_
  rintro e w3 ⟨n, rfl, n0, n1, hc3, ho3⟩
  have M3 := Lib.hid (M2.out.oth ((Oth.of_below (g := w.heap.size) ((Below.refl _ w2).alloc (Nat.le_refl _) _)).trans ho3) (by simp))
  have B3 := Lib.hid ((B2.out.alloc (by omega) _).trans (ho3.below (B := w.heap.size) (Nat.le_refl _) (by simp; omega)))
  clear ho3 hc2 hc3
  go_wp2
  go_ret2
  exact ⟨B', d', O, n, rfl, M3.out.base (by simp), HO.out, n0, n1, B3.out⟩
end Go.Proofs.Ytdipmjflgjlfeaa
