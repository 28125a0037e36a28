/-
  The reference's draws of offsets for the laws.
-/
import Derived.Test.YtdipmjflgjlfeaaDrv
import Derived.Test.YtdipmjflgjlfeaaDrz
import Derived.Deep.RegionHeld3
namespace Go.Proofs.Ytdipmjflgjlfeaa
open Go.RowKit

def DrO (w : World) (e : Ending) (w' : World) : Prop := ∃ B' d' O, e = .returned (.slice B' O.length d') ∧ MemO w' w.heap.size B' (ints O) ∧ okOffs O ∧ Below w.heap.size w w'
def DrLOS (w : World) (e : Ending) (w' : World) : Prop := ∃ A' c' L B' d' O x y, e = .returned (.tuple #[.slice A' L.length c', .slice B' O.length d', .agg #[.int .i64 x, .int .i64 y]]) ∧ ownL w w' A' c' L ∧ MemO w' w.heap.size B' (ints O) ∧ okOffs O ∧ smSp ⟨x, y⟩ ∧ Below w.heap.size w w'
def DrLOSN (lo hi : Int) (w : World) (e : Ending) (w' : World) : Prop := ∃ A' c' L B' d' O x y n, e = .returned (.tuple #[.slice A' L.length c', .slice B' O.length d', .agg #[.int .i64 x, .int .i64 y], .int .i64 n]) ∧ ownL w w' A' c' L ∧ MemO w' w.heap.size B' (ints O) ∧ okOffs O ∧ smSp ⟨x, y⟩ ∧ lo ≤ n ∧ n ≤ hi ∧ Below w.heap.size w w'

set_option maxRecDepth 100000 in
theorem drawAreOffsets_any (A : Option Addr) (c : Nat) (C : List Int) (w : World) (h : code w A C) : Calls Try.prog 48 #[.slice A C.length c] w (DrO w) := by
  have hcu := (h.cur (c := c)).alloc (.cells #[.int .i64 0, .int .i64 1, .int .i64 3, .int .i64 5, .int .i64 40, .int .i64 41] 3)
  have hbk := Blk.new (w.alloc (.cells #[.slice A C.length c, .int .i64 0, .int .u64 0] 81)) #[.int .i64 0, .int .i64 1, .int .i64 3, .int .i64 5, .int .i64 40, .int .i64 41] 3
  rw [show (w.alloc (.cells #[.slice A C.length c, .int .i64 0, .int .u64 0] 81)).heap.size = w.heap.size + 1 from by simp] at hbk
  have HBK := Lib.hid hbk
  have HCU := Lib.hid hcu
  clear h hcu hbk
  go_enter Try.func48, Try.ntmps48
  go_wp2_with fail
  refine (among_any w.heap.size 0 (w.heap.size + 1) 6 6 _ [0, 1, 3, 5, 40, 41] 0 41 _ HCU.out (by omega) HBK.out rfl rfl (by omega) (by simp) (by simp) (by simp)).mono ?_
  rintro e w1 ⟨n, rfl, n0, n1, hc1, ho1⟩
  obtain ⟨n, rfl⟩ := Int.eq_ofNat_of_zero_le n0
  have O1 := Lib.hid ho1
  clear ho1
  go_wp2_with fail
  refine (offsetsFor_any _ _ _ _ hc1 (by omega) (by omega)).mono ?_
  rintro e w2 ⟨B', d', O, rfl, hm, hok, hc2, ho2⟩
  have HM := Lib.hid hm
  have HO := Lib.hid hok
  have z1 : w.heap.size + 2 ≤ w1.heap.size := by have := O1.out.size; simpa using this
  have O2 := Lib.hid (O1.out.trans ho2)
  clear hm hok hc2 ho2 hc1
  go_wp2
  go_ret
  refine ⟨B', d', O, rfl, HM.out.base (by omega), HO.out, ?_⟩
  exact (((Below.refl _ _).alloc (Nat.le_refl _) _).alloc (by simp) _).trans (O2.out.below (B := w.heap.size) (Nat.le_refl _) (by simp; omega))

set_option maxRecDepth 100000 in
theorem drawHeardTimes_any (A : Option Addr) (c : Nat) (C : List Int) (w : World) (h : code w A C) : Calls Try.prog 37 #[.slice A C.length c] w (DrLOS w) := by
  have hb0 : Below w.heap.size w (w.alloc (.cells #[.int .i64 0, .int .i64 0] 25)) := (Below.refl _ _).alloc (Nat.le_refl _) _
  have hcur := (h.below hb0).cur (c := c)
  have R0 := Lib.hid ((Blk.new w #[.int .i64 0, .int .i64 0] 25).alloc (.cells #[.slice A C.length c, .int .i64 0, .int .u64 0] 81))
  have HB := Lib.hid (hb0.alloc (by simp) (.cells #[.slice A C.length c, .int .i64 0, .int .u64 0] 81))
  rw [show (w.alloc (.cells #[.int .i64 0, .int .i64 0] 25)).heap.size = w.heap.size + 1 from by simp] at hcur
  clear h hb0
  go_enter Try.func37, Try.ntmps37
  go_wp2_with fail
  refine (sources_any _ 0 _ hcur (by omega)).mono ?_
  rintro e w1 ⟨A', c', L, rfl, ho, hl, hL, hc1, ho1⟩
  have HX := Lib.hid ho
  have HL := Lib.hid hL
  have O1 := Lib.hid ho1
  have R1 := Lib.hid (ho1.blk R0.out (by omega))
  have z1 : w.heap.size + 2 ≤ w1.heap.size := by simpa using ho1.size
  clear ho1 ho hL hcur
  go_wp2_with fail
  refine (offsetsFor_any _ _ _ _ hc1 (by omega) hl).mono ?_
  rintro e w2 ⟨B', d', O, rfl, hm, hok, hc2, ho2⟩
  have X2 := Lib.hid (ho2.own HX.out (by simp))
  have O2 := Lib.hid (O1.out.trans ho2)
  have R2 := Lib.hid (ho2.blk R1.out (by omega))
  have M2 := Lib.hid hm
  have HO := Lib.hid hok
  clear ho2 hc1 hm hok
  go_wp2_with fail
  refine (anySpot_any _ _ _ hc2 (by omega)).mono ?_
  rintro e w3 ⟨x, y, rfl, x0, x1, y0, y1, hc3, ho3⟩
  have X3 := Lib.hid (ho3.own X2.out (by simp))
  have O3 := Lib.hid (O2.out.trans ho3)
  have R3 := Lib.hid (ho3.blk R2.out (by omega))
  have M3 := Lib.hid (M2.out.oth ho3 (by omega))
  clear ho3 hc2 hc3
  have f0 := R3.out.frozen 0
  have f1 := R3.out.frozen 1
  have e0 := R3.out.cell 0
  have e1 := R3.out.cell 1
  simp at e0 e1
  go_wp2
  refine bodyPost_ret (v := .tuple #[.slice A' L.length c', .slice B' O.length d', .agg #[.int .i64 x, .int .i64 y]]) (by simp [results, Try.results37, go_sem, e0, e1]) rfl ⟨A', c', L, B', d', O, x, y, rfl, ⟨own_base (own_set2 X3.out (by simp; omega)) (by simp; omega), hl, HL.out⟩, (M3.out.put2 (by omega)).base (by omega), HO.out, ⟨show -1 ≤ x by omega, show x ≤ 1281 by omega, show -1 ≤ y by omega, show y ≤ 673 by omega⟩, ?_⟩
  exact ((HB.out.trans (O3.out.below (B := w.heap.size) (by simp) (by simp))).setCell (Nat.le_refl _) _).setCell (Nat.le_refl _) _

set_option maxRecDepth 100000 in
set_option maxHeartbeats 1600000 in
theorem drawLateAt_any (A : Option Addr) (c : Nat) (C : List Int) (w : World) (h : code w A C) : Calls Try.prog 45 #[.slice A C.length c] w (DrLOSN (-1) 4001 w) := by
  have hb0 : Below w.heap.size w (w.alloc (.cells #[.int .i64 0, .int .i64 0] 25)) := (Below.refl _ _).alloc (Nat.le_refl _) _
  have hcur := (h.below hb0).cur (c := c)
  have R0 := Lib.hid ((Blk.new w #[.int .i64 0, .int .i64 0] 25).alloc (.cells #[.slice A C.length c, .int .i64 0, .int .u64 0] 81))
  have hbb := hb0.alloc (by simp) (.cells #[.slice A C.length c, .int .i64 0, .int .u64 0] 81)
  have HB := Lib.hid hbb
  have HC := Lib.hid (h.below hbb)
  rw [show (w.alloc (.cells #[.int .i64 0, .int .i64 0] 25)).heap.size = w.heap.size + 1 from by simp] at hcur
  have HCU := Lib.hid hcur
  clear h hb0 hcur hbb
  go_enter Try.func45, Try.ntmps45
  go_wp2_with fail
  refine (drawHeardTimes_any _ _ _ _ HC.out).mono ?_
  rintro e w1 ⟨A', c', L, B', d', O, x, y, rfl, ⟨ho, hl, hL⟩, hm, hok, hsm, hb1⟩
  have z1 : w.heap.size + 2 ≤ w1.heap.size := by have := hb1.size; simpa using this
  have HX := Lib.hid ho
  have HL := Lib.hid hL
  have HM := Lib.hid hm
  have HO := Lib.hid hok
  have HS := Lib.hid hsm
  have R1 := Lib.hid (R0.out.below hb1 (by simp; omega))
  have B1 := Lib.hid (HB.out.trans (hb1.mono (B' := w.heap.size) (by simp; omega)))
  have hc1 := HCU.out.below hb1 (by simp)
  have hc2 := hc1.alloc (.cells #[.int .i64 x, .int .i64 y] 25)
  have R2 := Lib.hid (R1.out.alloc (.cells #[.int .i64 x, .int .i64 y] 25))
  have hbox := Blk.new w1 #[.int .i64 x, .int .i64 y] 25
  have HBOX := Lib.hid hbox
  have hS : (w1.alloc (.cells #[.int .i64 x, .int .i64 y] 25)).cell? ⟨w1.heap.size, 0, none⟩ = some (.int .i64 x) ∧ (w1.alloc (.cells #[.int .i64 x, .int .i64 y] 25)).cell? ⟨w1.heap.size, 1, none⟩ = some (.int .i64 y) := ⟨(hbox.cell 0).trans rfl, (hbox.cell 1).trans rfl⟩
  have HSS := Lib.hid hS
  clear ho hL hm hok hsm hb1 hc1 hbox hS
  go_wp2
  go_region_held3 (fun wx => wx.cell? ⟨w1.heap.size, 0, none⟩ = some (.int .i64 x) ∧ wx.cell? ⟨w1.heap.size, 1, none⟩ = some (.int .i64 y))
    (first | assumption | exact hS4 | exact HSS.out | (simp [go_sem, *]; done))
    (first
      | (go_at_call 99; refine (mostSpread_any _ 0 _ (Cur.drew hc2) (by omega)).mono ?_; rintro e w4 ⟨n, rfl, n0, n1, hc4, ho4⟩; have hS4 := keepS ho4 HSS.out (by omega); have B4 := ho4.blk (Blk.drew R2.out) (by omega); have u0 := B4.frozen 0; have u1 := B4.frozen 1; have u2 := B4.cell 0; have u3 := B4.cell 1; (try simp at u2); (try simp at u3); have B4' := Lib.hid B4; clear B4))
  go_wp2
  have hHX := ho4.own (own_drew (HX.out.alloc (.cells #[.int .i64 x, .int .i64 y] 25))) (by simp)
  have hO4 : Oth (w.heap.size + 1) w1 w4 := ((Oth.refl _ w1).alloc _).drew.trans ho4
  have hHM := HM.out.oth hO4 (by simp)
  refine bodyPost_ret (v := .tuple #[.slice A' L.length c', .slice B' O.length d', .agg #[.int .i64 x, .int .i64 y], .int .i64 n]) (by simp [results, Try.results45, go_sem, u2, u3]) rfl ⟨A', c', L, B', d', O, x, y, n, rfl, ⟨own_base (own_set2 hHX (by simp; omega)) (by simp; omega), hl, HL.out⟩, (hHM.put2 (by simp; omega)).base (by simp; omega), HO.out, HS.out, n0, n1, ?_⟩
  exact ((B1.out.trans (hO4.below (B := w.heap.size) (by simp) (by omega))).setCell (Nat.le_refl _) _).setCell (Nat.le_refl _) _
end Go.Proofs.Ytdipmjflgjlfeaa
