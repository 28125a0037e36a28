/-
  The reference's draw of two spots.
-/
import Derived.Test.YtdipmjflgjlfeaaDry
import Derived.Deep.RegionHeld3
namespace Go.Proofs.Ytdipmjflgjlfeaa
open Go.RowKit

theorem Cur.drew {w : World} {g k : Nat} (h : Cur w g k) : Cur w.drew g k := h
theorem keepS {w w' : World} {g b : Nat} {u v : Value} (h : Oth g w.drew w') (hS : w.cell? ⟨b, 0, none⟩ = some u ∧ w.cell? ⟨b, 1, none⟩ = some v) (hb : b ≠ g) : w'.cell? ⟨b, 0, none⟩ = some u ∧ w'.cell? ⟨b, 1, none⟩ = some v := by
  have hl : b < w.drew.heap.size := World.block_lt_of_cell? w _ hS.1
  exact ⟨(World.cell?_of_block (a := ⟨b, 0, none⟩) (h.block b hl hb)).trans hS.1, (World.cell?_of_block (a := ⟨b, 1, none⟩) (h.block b hl hb)).trans hS.2⟩

set_option maxRecDepth 100000 in
theorem drawSoundTime_any (A : Option Addr) (c : Nat) (C : List Int) (w : World) (h : code w A C) : Calls Try.prog 8 #[.slice A C.length c] w (DrSS w) := by
  have hb0 : Below w.heap.size w ((w.alloc (.cells #[.int .i64 0, .int .i64 0] 25)).alloc (.cells #[.int .i64 0, .int .i64 0] 25)) := ((Below.refl _ _).alloc (Nat.le_refl _) _).alloc (by simp) _
  have hcur := (h.below hb0).cur (c := c)
  have R0 := Lib.hid (((Blk.new w #[.int .i64 0, .int .i64 0] 25).alloc (.cells #[.int .i64 0, .int .i64 0] 25)).alloc (.cells #[.slice A C.length c, .int .i64 0, .int .u64 0] 81))
  have Q0 := Lib.hid ((Blk.new (w.alloc (.cells #[.int .i64 0, .int .i64 0] 25)) #[.int .i64 0, .int .i64 0] 25).alloc (.cells #[.slice A C.length c, .int .i64 0, .int .u64 0] 81))
  have HB := Lib.hid (hb0.alloc (by simp; omega) (.cells #[.slice A C.length c, .int .i64 0, .int .u64 0] 81))
  rw [show ((w.alloc (.cells #[.int .i64 0, .int .i64 0] 25)).alloc (.cells #[.int .i64 0, .int .i64 0] 25)).heap.size = w.heap.size + 2 from by simp] at hcur
  clear h hb0
  go_enter Try.func8, Try.ntmps8
  go_wp2_with fail
  refine (anySpot_any _ 0 _ hcur (by omega)).mono ?_
  rintro e w1 ⟨x, y, rfl, x0, x1, y0, y1, hc1, ho1⟩
  have O1 := Lib.hid ho1
  have R1 := Lib.hid (ho1.blk R0.out (by omega))
  have Q1 := Lib.hid (ho1.blk Q0.out (by simp))
  have z1 : w.heap.size + 3 ≤ w1.heap.size := by simpa using ho1.size
  clear ho1 hcur
  go_wp2_with fail
  refine (anySpot_any _ _ _ hc1 (by omega)).mono ?_
  rintro e w2 ⟨x', y', rfl, x0', x1', y0', y1', hc2, ho2⟩
  have O2 := Lib.hid (O1.out.trans ho2)
  have R2 := Lib.hid (ho2.blk R1.out (by omega))
  have Q2 := Lib.hid (ho2.blk Q1.out (by simp))
  have z2 : w.heap.size + 3 ≤ w2.heap.size := Nat.le_trans z1 ho2.size
  clear ho2 hc1
  have BA := Lib.hid ((Blk.new w2 #[.int .i64 x, .int .i64 y] 25).alloc (.cells #[.int .i64 x', .int .i64 y'] 25))
  have BB := Lib.hid (Blk.new (w2.alloc (.cells #[.int .i64 x, .int .i64 y] 25)) #[.int .i64 x', .int .i64 y'] 25)
  have zg := hc2.lt
  go_wp2_with fail
  refine (one_any _ _ _ _ ((hc2.alloc _).alloc _) (by omega) (by omega)).mono ?_
  rintro e w3 ⟨b, rfl, hc3, ho3⟩
  have O3 := Lib.hid (((O2.out.alloc _).alloc _).trans ho3)
  have R3 := Lib.hid (ho3.blk ((R2.out.alloc _).alloc _) (by omega))
  have Q3 := Lib.hid (ho3.blk ((Q2.out.alloc _).alloc _) (by simp))
  have A3 := Lib.hid (ho3.blk BA.out (by omega))
  have b3 := ho3.blk BB.out (by simp; omega)
  rw [show (w2.alloc (.cells #[.int .i64 x, .int .i64 y] 25)).heap.size = w2.heap.size + 1 from by simp] at b3
  have B3 := Lib.hid b3
  have q3 := Q3.out
  rw [show (w.alloc (.cells #[.int .i64 0, .int .i64 0] 25)).heap.size = w.heap.size + 1 from by simp] at q3
  have P3 := Lib.hid q3
  clear b3 q3
  clear ho3 hc2
  cases b
  · obtain ⟨X, rfl⟩ : ∃ X : Int, X = x' := ⟨_, rfl⟩
    obtain ⟨Y, rfl⟩ : ∃ Y : Int, Y = y' := ⟨_, rfl⟩
    have R5 := R3
    have P5 := P3
    have A5 := A3
    have B5 := B3
    have O5 := O3
    clear hc3
    have r0 := R5.out.frozen 0
    have r1 := R5.out.frozen 1
    have r2 := R5.out.cell 0
    have r3 := R5.out.cell 1
    have p0 := P5.out.frozen 0
    have p1 := P5.out.frozen 1
    have p2 := P5.out.cell 0
    have p3 := P5.out.cell 1
    have a2 := A5.out.cell 0
    have a3 := A5.out.cell 1
    have b2 := B5.out.cell 0
    have b3 := B5.out.cell 1
    simp at r2 r3 p2 p3 a2 a3 b2 b3
    have n1' : w2.heap.size ≠ w.heap.size := by omega
    have n2' : w.heap.size ≠ w2.heap.size := by omega
    have n3' : w2.heap.size + 1 ≠ w.heap.size := by omega
    have n4' : w.heap.size ≠ w2.heap.size + 1 := by omega
    have n5' : w2.heap.size ≠ w.heap.size + 1 := by omega
    have n6' : w.heap.size + 1 ≠ w2.heap.size := by omega
    go_wp2
    go_region
    all_goals
      go_wp2
      refine bodyPost_ret (v := .tuple #[.agg #[.int .i64 x, .int .i64 y], .agg #[.int .i64 X, .int .i64 Y]]) (by simp [results, Try.results8, go_sem, *]) rfl ⟨x, y, X, Y, rfl, ⟨show -1 ≤ x by omega, show x ≤ 1281 by omega, show -1 ≤ y by omega, show y ≤ 673 by omega⟩, ⟨show -1 ≤ X by omega, show X ≤ 1281 by omega, show -1 ≤ Y by omega, show Y ≤ 673 by omega⟩, ?_⟩
      have hz := O5.out.below (B := w.heap.size) (by omega) (by simp)
      have hy := HB.out.trans hz
      repeat (first | exact hy | (refine Below.setCell ?_ (by simp; try omega) _) | (refine Below.drew ?_) | (refine Below.drewN ?_ _))
  · have q0 := A3.out.cell 0
    have q1 := A3.out.cell 1
    simp at q0 q1
    have hS : w3.cell? ⟨w2.heap.size, 0, none⟩ = some (.int .i64 x) ∧ w3.cell? ⟨w2.heap.size, 1, none⟩ = some (.int .i64 y) := ⟨q0, q1⟩
    go_wp2_with fail
    go_region_held3 (fun wx => wx.cell? ⟨w2.heap.size, 0, none⟩ = some (.int .i64 x) ∧ wx.cell? ⟨w2.heap.size, 1, none⟩ = some (.int .i64 y))
      (first | assumption | exact hS4 | exact hS | (simp [go_sem, *]; done))
      (first
        | (go_at_call 72; refine (pick_any _ (0 + 16 + 16 + 2) _ _ 29 (Cur.drew hc3) (by omega) (by omega) (by omega) (by omega)).mono ?_; rintro e w4 ⟨n, rfl, n0, n1, hc4, ho4⟩; have hS4 := keepS ho4 hS (by omega); have B4 := ho4.blk (Blk.drew B3.out) (by omega); have u0 := B4.frozen 0; have u1 := B4.frozen 1; have u2 := B4.cell 0; have u3 := B4.cell 1; (try simp at u2); (try simp at u3); have B4' := Lib.hid B4; clear B4)
        | (go_at_call 71; refine (l1Least_any _ _ _).mono ?_; rintro e w5 ⟨rfl, rfl⟩))
    have hwr : IntKind.i64.wrap (x + n) = x + n := IntWalk.i64_in _ (by omega)
    rw [hwr]
    clear hwr
    obtain ⟨X, hX⟩ : ∃ X : Int, X = min 1280 (x + n) := ⟨_, rfl⟩
    have X0 : -1 ≤ X := by omega
    have X1 : X ≤ 1281 := by omega
    rw [← hX]
    obtain ⟨Y, hY⟩ : ∃ Y : Int, Y = y := ⟨_, rfl⟩
    have Y0 : -1 ≤ Y := by omega
    have Y1 : Y ≤ 673 := by omega
    have e5 : Blk ((w4.setCell ⟨w2.heap.size + 1, 0, none⟩ (.int .i64 X)).setCell ⟨w2.heap.size + 1, 1, none⟩ (.int .i64 y)) (w2.heap.size + 1) #[.int .i64 X, .int .i64 Y] 25 := by rw [hY]; exact B4'.out.set2 _ _
    clear hX hY
    have B5 := Lib.hid e5
    have A5 := Lib.hid (((ho4.blk (Blk.drew A3.out) (by omega)).other (j := 0) (show w2.heap.size ≠ w2.heap.size + 1 by omega) (.int .i64 X)).other (j := 1) (show w2.heap.size ≠ w2.heap.size + 1 by omega) (.int .i64 y))
    have R5 := Lib.hid (((ho4.blk (Blk.drew R3.out) (by omega)).other (j := 0) (show w.heap.size ≠ w2.heap.size + 1 by omega) (.int .i64 X)).other (j := 1) (show w.heap.size ≠ w2.heap.size + 1 by omega) (.int .i64 y))
    have P5 := Lib.hid (((ho4.blk (Blk.drew P3.out) (by omega)).other (j := 0) (show w.heap.size + 1 ≠ w2.heap.size + 1 by omega) (.int .i64 X)).other (j := 1) (show w.heap.size + 1 ≠ w2.heap.size + 1 by omega) (.int .i64 y))
    have O5 := Lib.hid (((O3.out.drew.trans ho4).set (p := ⟨w2.heap.size + 1, 0, none⟩) (.inr (by simp; omega)) (.int .i64 X)).set (p := ⟨w2.heap.size + 1, 1, none⟩) (.inr (by simp; omega)) (.int .i64 y))
    clear e5 hc4 ho4 u0 u1 u2 u3 B4' hc3 q0 q1
    generalize (w4.setCell ⟨w2.heap.size + 1, 0, none⟩ (.int .i64 X)).setCell ⟨w2.heap.size + 1, 1, none⟩ (.int .i64 y) = W5 at *
    clear hS
    have r0 := R5.out.frozen 0
    have r1 := R5.out.frozen 1
    have r2 := R5.out.cell 0
    have r3 := R5.out.cell 1
    have p0 := P5.out.frozen 0
    have p1 := P5.out.frozen 1
    have p2 := P5.out.cell 0
    have p3 := P5.out.cell 1
    have a2 := A5.out.cell 0
    have a3 := A5.out.cell 1
    have b2 := B5.out.cell 0
    have b3 := B5.out.cell 1
    simp at r2 r3 p2 p3 a2 a3 b2 b3
    have n1' : w2.heap.size ≠ w.heap.size := by omega
    have n2' : w.heap.size ≠ w2.heap.size := by omega
    have n3' : w2.heap.size + 1 ≠ w.heap.size := by omega
    have n4' : w.heap.size ≠ w2.heap.size + 1 := by omega
    have n5' : w2.heap.size ≠ w.heap.size + 1 := by omega
    have n6' : w.heap.size + 1 ≠ w2.heap.size := by omega
    go_wp2
    go_region
    all_goals
      go_wp2
      refine bodyPost_ret (v := .tuple #[.agg #[.int .i64 x, .int .i64 y], .agg #[.int .i64 X, .int .i64 Y]]) (by simp [results, Try.results8, go_sem, *]) rfl ⟨x, y, X, Y, rfl, ⟨show -1 ≤ x by omega, show x ≤ 1281 by omega, show -1 ≤ y by omega, show y ≤ 673 by omega⟩, ⟨show -1 ≤ X by omega, show X ≤ 1281 by omega, show -1 ≤ Y by omega, show Y ≤ 673 by omega⟩, ?_⟩
      have hz := O5.out.below (B := w.heap.size) (by omega) (by simp)
      have hy := HB.out.trans hz
      repeat (first | exact hy | (refine Below.setCell ?_ (by simp; try omega) _) | (refine Below.drew ?_) | (refine Below.drewN ?_ _))
end Go.Proofs.Ytdipmjflgjlfeaa
