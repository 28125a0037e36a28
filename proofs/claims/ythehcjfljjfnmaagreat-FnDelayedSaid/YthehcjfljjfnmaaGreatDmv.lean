/-
  Draws of moves: move, together, repairMove.
-/
import Derived.Test.YthehcjfljjfnmaaGreatDrx
import Derived.Test.YthehcjfljjfnmaaGreatBase
import Derived.Deep.RegionHeld3
import Derived.Deep.DeepCutAuto
namespace Go.Proofs.YthehcjfljjfnmaaGreat
open Go.RowKit

def smMv (m : Mv) : Prop := (-9 ≤ m.f.x ∧ m.f.x ≤ 1300) ∧ (-9 ≤ m.f.y ∧ m.f.y ≤ 700) ∧ (-9 ≤ m.t.x ∧ m.t.x ≤ 1300) ∧ (-9 ≤ m.t.y ∧ m.t.y ≤ 700) ∧ 0 ≤ m.c ∧ m.c ≤ 65
/-- A move is drawn. -/
def Dv (g k : Nat) (P : Mv → Prop) (w : World) (e : Ending) (w' : World) : Prop := ∃ m : Mv, e = .returned (.agg #[.int .i64 m.f.x, .int .i64 m.f.y, .int .i64 m.t.x, .int .i64 m.t.y, .int .i64 m.c]) ∧ P m ∧ Cur w' g k ∧ Oth g w w'
def mvG (m : Mv) : Prop := (-1 ≤ m.f.x ∧ m.f.x ≤ 1281) ∧ (-1 ≤ m.f.y ∧ m.f.y ≤ 673) ∧ (-1 ≤ m.t.x ∧ m.t.x ≤ 1281) ∧ (-1 ≤ m.t.y ∧ m.t.y ≤ 673) ∧ 0 ≤ m.c ∧ m.c ≤ 65
theorem curD {w : World} {g k : Nat} (h : Cur w g k) : Cur w.drew g k := h
theorem blkN {w : World} {cs : Array Value} {t : TypeId} {b : Nat} (h : b = w.heap.size) : Blk (w.alloc (.cells cs t)) b cs t := by subst h; exact Blk.new _ _ _
theorem put5 {w : World} {z : Nat} {a0 a1 a2 a3 a4 : Value} {t : TypeId} (h : Blk w z #[a0, a1, a2, a3, a4] t) (v0 v1 v2 v3 v4 : Value) : Blk (((((w.setCell ⟨z, 0, none⟩ v0).setCell ⟨z, 1, none⟩ v1).setCell ⟨z, 2, none⟩ v2).setCell ⟨z, 3, none⟩ v3).setCell ⟨z, 4, none⟩ v4) z #[v0, v1, v2, v3, v4] t := by
  simpa using ((((h.set 0 v0).set 1 v1).set 2 v2).set 3 v3).set 4 v4
abbrev C2 (w : World) (b : Nat) (u v : Value) : Prop := w.cell? ⟨b, 0, none⟩ = some u ∧ w.cell? ⟨b, 1, none⟩ = some v
theorem C2.drew {w : World} {b : Nat} {u v : Value} (h : C2 w b u v) : C2 w.drew b u v := h
theorem C2.alloc {w : World} {b : Nat} {u v : Value} {o : Obj} (h : C2 w b u v) : C2 (w.alloc o) b u v := keep2 ((Below.refl _ _).alloc (Nat.le_refl _) _) h
theorem C2.oth {w w' : World} {g b : Nat} {u v : Value} (h : Oth g w w') (hb : b ≠ g) (hS : C2 w b u v) : C2 w' b u v := by
  have hl : b < w.heap.size := World.block_lt_of_cell? w _ hS.1
  exact ⟨(World.cell?_of_block (a := ⟨b, 0, none⟩) (h.block b hl hb)).trans hS.1, (World.cell?_of_block (a := ⟨b, 1, none⟩) (h.block b hl hb)).trans hS.2⟩
theorem C2.put {w : World} {b : Nat} {u v x y : Value} (h : C2 w b u v) : C2 ((w.setCell ⟨b, 2, none⟩ x).setCell ⟨b, 3, none⟩ y) b u v :=
  ⟨(World.cell?_setCell_other _ _ _ _ (by simp)).trans ((World.cell?_setCell_other _ _ _ _ (by simp)).trans h.1), (World.cell?_setCell_other _ _ _ _ (by simp)).trans ((World.cell?_setCell_other _ _ _ _ (by simp)).trans h.2)⟩

set_option maxHeartbeats 6400000 in
set_option maxRecDepth 100000 in
theorem move_any (g k : Nat) (w : World) (h : Cur w g k) (hk : k ≤ 600000) : Calls Tryz.prog 53 #[.pointer (some ⟨g, 0, none⟩)] w (Dv g (k + 60) mvG w) := by
  have hlt0 := h.lt
  have HZ := Lib.hid (Blk.new w #[.int .i64 0, .int .i64 0, .int .i64 0, .int .i64 0, .int .i64 0] 26)
  have HO := Lib.hid ((Oth.refl g w).alloc (.cells #[.int .i64 0, .int .i64 0, .int .i64 0, .int .i64 0, .int .i64 0] 26))
  have HC := Lib.hid (h.alloc (.cells #[.int .i64 0, .int .i64 0, .int .i64 0, .int .i64 0, .int .i64 0] 26))
  clear h
  go_enter Tryz.func53, Tryz.ntmps53
  go_wp2_with fail
  generalize (w.alloc (.cells #[.int .i64 0, .int .i64 0, .int .i64 0, .int .i64 0, .int .i64 0] 26)) = W0 at *
  refine (spot_any g k _ HC.out (by omega)).mono ?_
  rintro e w1 ⟨x, y, rfl, x0, x1, y0, y1, hc1, ho1⟩
  have O1 := Lib.hid (HO.out.trans ho1)
  have Z1 := Lib.hid (ho1.blk HZ.out (by omega))
  clear ho1 HO HZ HC
  go_wp2_with fail
  refine (pick_any g (k + 12) 64 _ 63 hc1 (by omega) (by omega) (by omega) (by omega)).mono ?_
  rintro e w2 ⟨q, rfl, q0, q1, hc2, ho2⟩
  have O2 := Lib.hid (O1.out.trans ho2)
  have Z2 := Lib.hid (ho2.blk Z1.out (by omega))
  clear ho2 O1 Z1 hc1
  have hz2 := hc2.lt
  go_wp2_with fail
  refine (among_any g (k + 14) _ 8 _ _ [1, 2, 4, 8, 8, 12, 16, 1 + q] 1 64 _ (hc2.alloc _) (by omega) (Blk.new _ _ _) rfl rfl (by omega) (by simp) (by simp) (by simp; omega)).mono ?_
  rintro e w3 ⟨n, rfl, n0, n1, hc3, ho3⟩
  have O3 := Lib.hid ((O2.out.alloc _).trans ho3)
  have Z3 := Lib.hid (ho3.blk (Z2.out.alloc _) (by omega))
  have hz3 := hc3.lt
  have hzz := Z3.out.lt
  clear ho3 O2 Z2 hc2
  go_wp2_with fail
  have HB := Lib.hid (Blk.new w3 #[.int .i64 x, .int .i64 y, .int .i64 0, .int .i64 0, .int .i64 n] 26)
  have HC := Lib.hid (hc3.alloc (.cells #[.int .i64 x, .int .i64 y, .int .i64 0, .int .i64 0, .int .i64 n] 26))
  have HO := Lib.hid (O3.out.alloc (.cells #[.int .i64 x, .int .i64 y, .int .i64 0, .int .i64 0, .int .i64 n] 26))
  have HZ := Lib.hid (Z3.out.alloc (.cells #[.int .i64 x, .int .i64 y, .int .i64 0, .int .i64 0, .int .i64 n] 26))
  obtain ⟨b, hb⟩ : ∃ b, w3.heap.size = b := ⟨_, rfl⟩
  have hbg : b ≠ g := by omega
  have hwb : w.heap.size < b := by omega
  rw [hb] at HB ⊢
  generalize (w3.alloc (.cells #[.int .i64 x, .int .i64 y, .int .i64 0, .int .i64 0, .int .i64 n] 26)) = W3 at *
  clear O3 Z3 hc3 hz3 hzz hb hz2
  have CS := Lib.hid (show C2 W3 b (.int .i64 x) (.int .i64 y) from ⟨HB.out.cell 0, HB.out.cell 1⟩)
  have c2 : W3.cell? ⟨b, 2, none⟩ = some (.int .i64 0) := HB.out.cell 2
  have c3 : W3.cell? ⟨b, 3, none⟩ = some (.int .i64 0) := HB.out.cell 3
  have f2 := HB.out.frozen 2
  have f3 := HB.out.frozen 3
  have CJ1 := Lib.hid (fun (w' : World) (h : Cur w' g (k + 16)) => pick_any g (k + 16) 200 w' 199 h (by omega) (by omega) (by omega) (by omega))
  have CJ2 := Lib.hid (fun (w' : World) (q c : Nat) (t : Int) (h : Cur w' g (k + 18)) (hB : Blk w' q #[.int .i64 0, .int .i64 8, .int .i64 12, .int .i64 16, .int .i64 64, .int .i64 t] 3) (hne : q ≠ g) (ht : 0 ≤ t ∧ t ≤ 199) => among_any g (k + 18) q 6 c #[.int .i64 0, .int .i64 8, .int .i64 12, .int .i64 16, .int .i64 64, .int .i64 t] [0, 8, 12, 16, 64, t] 0 199 w' h (by omega) hB rfl rfl hne (by simp) (by simp) (by simp; omega))
  have CJ3 := Lib.hid (fun (w' : World) (h : Cur w' g (k + 20)) => pick_any g (k + 20) 200 w' 199 h (by omega) (by omega) (by omega) (by omega))
  have CJ4 := Lib.hid (fun (w' : World) (q c : Nat) (t : Int) (h : Cur w' g (k + 22)) (hB : Blk w' q #[.int .i64 0, .int .i64 8, .int .i64 16, .int .i64 64, .int .i64 t] 3) (hne : q ≠ g) (ht : 0 ≤ t ∧ t ≤ 199) => among_any g (k + 22) q 5 c #[.int .i64 0, .int .i64 8, .int .i64 16, .int .i64 64, .int .i64 t] [0, 8, 16, 64, t] 0 199 w' h (by omega) hB rfl rfl hne (by simp) (by simp) (by simp; omega))
  have HL1 := Lib.hid (fun (w' : World) (a : Int) => l1Least_any 1280 a w')
  have HL2 := Lib.hid (fun (w' : World) (a : Int) => l1Most_any 0 a w')
  go_region_held3 (fun wx => wx.cell? ⟨b, 0, none⟩ = some (.int .i64 x) ∧ wx.cell? ⟨b, 1, none⟩ = some (.int .i64 y))
    (repeat (first | with_reducible exact CS.out | with_reducible exact hS8 | with_reducible exact hS7 | with_reducible exact hS6 | with_reducible exact hS5 | with_reducible refine C2.drew ?_ | with_reducible refine C2.alloc ?_ | with_reducible refine C2.put ?_))
    (first
      | (go_at_call 27; (first | (have hmC := hcC) | fail); (first | (refine (CJ4.out _ _ _ qC ?_ ?_ ?_ ?_).mono ?_) | fail); (focus (repeat (first | with_reducible exact hcC | with_reducible refine curD ?_ | with_reducible refine Cur.alloc ?_ _))); (focus (repeat (first | with_reducible refine Blk.drew ?_ | (with_reducible refine blkN ?_; (first | (simp; done) | (simp; omega) | rfl)) | with_reducible refine Blk.alloc ?_ _))); (focus (first | omega | (simp; omega))); (focus omega); rintro e w8 ⟨n2, rfl, n20, n21, hcD, hoD⟩; have hgD := hcD.lt; have hS8 : w8.cell? ⟨b, 0, none⟩ = some (.int .i64 x) ∧ w8.cell? ⟨b, 1, none⟩ = some (.int .i64 y) := C2.oth hoD hbg (by repeat (first | with_reducible exact hS7 | with_reducible refine C2.drew ?_ | with_reducible refine C2.alloc ?_)); have B8 : Blk w8 b #[.int .i64 x, .int .i64 y, .int .i64 0, .int .i64 0, .int .i64 n] 26 := hoD.blk (by repeat (first | with_reducible exact B7 | with_reducible refine Blk.drew ?_ | with_reducible refine Blk.alloc ?_ _)) hbg; have u2 := B8.frozen 2; have u3 := B8.frozen 3; have u4 := B8.cell 2; have u5 := B8.cell 3; (try simp at u4); (try simp at u5))
      | (go_at_call 54; (first | (have hmB := hcB) | fail); (first | (refine (CJ3.out _ ?_).mono ?_) | fail); (focus (repeat (first | with_reducible exact hcB | with_reducible refine curD ?_ | with_reducible refine Cur.alloc ?_ _))); rintro e w7 ⟨qC, rfl, qC0, qC1, hcC, hoC⟩; have hgC := hcC.lt; have hS7 : w7.cell? ⟨b, 0, none⟩ = some (.int .i64 x) ∧ w7.cell? ⟨b, 1, none⟩ = some (.int .i64 y) := C2.oth hoC hbg (by repeat (first | with_reducible exact hS6 | with_reducible refine C2.drew ?_ | with_reducible refine C2.alloc ?_)); have B7 : Blk w7 b #[.int .i64 x, .int .i64 y, .int .i64 0, .int .i64 0, .int .i64 n] 26 := hoC.blk (by repeat (first | with_reducible exact B6 | with_reducible refine Blk.drew ?_ | with_reducible refine Blk.alloc ?_ _)) hbg)
      | (go_at_call 27; (first | (have hmA := hcA) | fail); (first | (refine (CJ2.out _ _ _ qA ?_ ?_ ?_ ?_).mono ?_) | fail); (focus (repeat (first | with_reducible exact hcA | with_reducible refine curD ?_ | with_reducible refine Cur.alloc ?_ _))); (focus (repeat (first | with_reducible refine Blk.drew ?_ | (with_reducible refine blkN ?_; (first | (simp; done) | (simp; omega) | rfl)) | with_reducible refine Blk.alloc ?_ _))); (focus (first | omega | (simp; omega))); (focus omega); rintro e w6 ⟨n1_, rfl, n10, n11, hcB, hoB⟩; have hgB := hcB.lt; have hS6 : w6.cell? ⟨b, 0, none⟩ = some (.int .i64 x) ∧ w6.cell? ⟨b, 1, none⟩ = some (.int .i64 y) := C2.oth hoB hbg (by repeat (first | with_reducible exact hS5 | with_reducible refine C2.drew ?_ | with_reducible refine C2.alloc ?_)); have B6 : Blk w6 b #[.int .i64 x, .int .i64 y, .int .i64 0, .int .i64 0, .int .i64 n] 26 := hoB.blk (by repeat (first | with_reducible exact B5 | with_reducible refine Blk.drew ?_ | with_reducible refine Blk.alloc ?_ _)) hbg)
      | (go_at_call 54; (first | (refine (CJ1.out _ ?_).mono ?_) | fail); (focus (repeat (first | with_reducible exact HC.out | with_reducible refine curD ?_ | with_reducible refine Cur.alloc ?_ _))); rintro e w5 ⟨qA, rfl, qA0, qA1, hcA, hoA⟩; have hgA := hcA.lt; have hS5 : w5.cell? ⟨b, 0, none⟩ = some (.int .i64 x) ∧ w5.cell? ⟨b, 1, none⟩ = some (.int .i64 y) := C2.oth hoA hbg (by repeat (first | with_reducible exact CS.out | with_reducible refine C2.drew ?_ | with_reducible refine C2.alloc ?_)); have B5 : Blk w5 b #[.int .i64 x, .int .i64 y, .int .i64 0, .int .i64 0, .int .i64 n] 26 := hoA.blk (by repeat (first | with_reducible exact HB.out | with_reducible refine Blk.drew ?_ | with_reducible refine Blk.alloc ?_ _)) hbg)
      | (go_at_call 72; refine (HL1.out _ _).mono ?_; rintro e w9 ⟨rfl, rfl⟩)
      | (go_at_call 49; refine (HL2.out _ _).mono ?_; rintro e w9 ⟨rfl, rfl⟩))

  rename_i hHeld
  clear hHeld
  have hX : IntKind.i64.wrap (x + n1_) = x + n1_ := IntWalk.i64_in _ (by omega)
  have hY : IntKind.i64.wrap (y - n2) = y - n2 := IntWalk.i64_in _ (by omega)
  rw [hX, hY]
  obtain ⟨X, hX2⟩ : ∃ X, min 1280 (x + n1_) = X := ⟨_, rfl⟩
  obtain ⟨Y, hY2⟩ : ∃ Y, max 0 (y - n2) = Y := ⟨_, rfl⟩
  rw [hX2, hY2]
  have hXb : 0 ≤ X ∧ X ≤ 1280 := by omega
  have hYb : 0 ≤ Y ∧ Y ≤ 672 := by omega
  have O8 := Lib.hid (((((HO.out.drew.trans hoA).alloc _).trans hoB).trans hoC |>.alloc _).trans hoD)
  have Z8 := Lib.hid (hoD.blk ((hoC.blk (hoB.blk ((hoA.blk HZ.out (by omega)).alloc _) (by omega)) (by omega)).alloc _) (by omega))
  have B9 := Lib.hid (show Blk ((w8.setCell ⟨b, 2, none⟩ (.int .i64 X)).setCell ⟨b, 3, none⟩ (.int .i64 Y)) b #[.int .i64 x, .int .i64 y, .int .i64 X, .int .i64 Y, .int .i64 n] 26 by simpa using (B8.set 2 (.int .i64 X)).set 3 (.int .i64 Y))
  have hbw : w.heap.size < b := hwb
  have O9 := Lib.hid ((O8.out.set (p := ⟨b, 2, none⟩) (.inr (by simp; omega)) (.int .i64 X)).set (p := ⟨b, 3, none⟩) (.inr (by simp; omega)) (.int .i64 Y))
  have Z9 := Lib.hid ((Z8.out.other (g' := b) (j := 2) (by omega) (.int .i64 X)).other (g' := b) (j := 3) (by omega) (.int .i64 Y))
  have C9 := Lib.hid ((hcD.put1 (p := ⟨b, 2, none⟩) (u := .int .i64 X) (by simp; omega)).put1 (p := ⟨b, 3, none⟩) (u := .int .i64 Y) (by simp; omega))
  clear O8 Z8 HO HZ HC HB CS CJ1 CJ2 CJ3 CJ4 HL1 HL2 c2 c3 f2 f3 hX hY hX2 hY2 hS5 hS6 hS7 hS8 B5 B6 B7 B8 u2 u3 u4 u5 hoA hoB hoC hoD hcA hcB hcC hcD hmA hmB hmC hgA hgB hgC hgD hbg
  generalize ((w8.setCell ⟨b, 2, none⟩ (.int .i64 X)).setCell ⟨b, 3, none⟩ (.int .i64 Y)) = w9 at *
  clear n10 n11 n20 n21 qA0 qA1 qC0 qC1 q0 q1
  go_wp2_with fail
  refine (pick_any g (k + 24) 24 _ 23 C9.out (by omega) (by omega) (by omega) (by omega)).mono ?_
  rintro e wa ⟨r, rfl, r0, r1, hca, hoa⟩
  have Oa := Lib.hid (O9.out.trans hoa)
  have Za := Lib.hid (hoa.blk Z9.out (by omega))
  have Ba := Lib.hid (hoa.blk B9.out (by omega))
  have hla := hca.lt
  clear hoa O9 Z9 B9 C9
  by_cases e0 : r = 0
  · subst e0
    go_wp2_with fail
    refine (among_any g (k + 26) _ 3 _ _ [0, 64, 65] 0 65 _ (hca.alloc _) (by omega) (Blk.new _ _ _) rfl rfl (by omega) (by simp) (by simp) (by simp)).mono ?_
    rintro e wb ⟨n', rfl, m0, m1, hcb, hob⟩
    have Ob := Lib.hid ((Oa.out.alloc _).trans hob)
    have Zb := Lib.hid (hob.blk (Za.out.alloc _) (by omega))
    have Bb := hob.blk (Ba.out.alloc _) (by omega)
    have Cb := Lib.hid hcb

    have d0_ := Bb.cell 0
    have d1_ := Bb.cell 1
    have d2_ := Bb.cell 2
    have d3_ := Bb.cell 3
    have d4_ := Bb.cell 4
    simp only [List.getElem?_toArray, List.getElem?_cons_zero, List.getElem?_cons_succ] at d0_ d1_ d2_ d3_ d4_
    have d0f_ := Bb.frozen 0
    have d1f_ := Bb.frozen 1
    have d2f_ := Bb.frozen 2
    have d3f_ := Bb.frozen 3
    have d4f_ := Bb.frozen 4
    have z0_ := Zb.out.cell 0
    have z1_ := Zb.out.cell 1
    have z2_ := Zb.out.cell 2
    have z3_ := Zb.out.cell 3
    have z4_ := Zb.out.cell 4
    simp only [List.getElem?_toArray, List.getElem?_cons_zero, List.getElem?_cons_succ] at z0_ z1_ z2_ z3_ z4_
    have z0f_ := Zb.out.frozen 0
    have z1f_ := Zb.out.frozen 1
    have z2f_ := Zb.out.frozen 2
    have z3f_ := Zb.out.frozen 3
    have z4f_ := Zb.out.frozen 4
    have Oc := Lib.hid (Ob.out.set (p := ⟨b, 4, none⟩) (.inr (by simp; omega)) (.int .i64 n'))
    have Zc := Lib.hid (Zb.out.other (g' := b) (j := 4) (by omega) (.int .i64 n'))
    have Cc := Lib.hid (Cb.out.put1 (p := ⟨b, 4, none⟩) (u := .int .i64 n') (by simp; omega))
    clear hob hcb Oa Za Ba Bb hca Ob Zb Cb
    have P1 := Lib.hid (put5 Zc.out (.int .i64 x) (.int .i64 y) (.int .i64 X) (.int .i64 Y) (.int .i64 n'))
    have P2 := Lib.hid (((((Oc.out.set (p := ⟨w.heap.size, 0, none⟩) (.inr (Nat.le_refl _)) (.int .i64 x)).set (p := ⟨w.heap.size, 1, none⟩) (.inr (Nat.le_refl _)) (.int .i64 y)).set (p := ⟨w.heap.size, 2, none⟩) (.inr (Nat.le_refl _)) (.int .i64 X)).set (p := ⟨w.heap.size, 3, none⟩) (.inr (Nat.le_refl _)) (.int .i64 Y)).set (p := ⟨w.heap.size, 4, none⟩) (.inr (Nat.le_refl _)) (.int .i64 n'))
    have P3 := Lib.hid (((((Cc.out.put1 (p := ⟨w.heap.size, 0, none⟩) (u := (.int .i64 x)) hlt0).put1 (p := ⟨w.heap.size, 1, none⟩) (u := (.int .i64 y)) hlt0).put1 (p := ⟨w.heap.size, 2, none⟩) (u := (.int .i64 X)) hlt0).put1 (p := ⟨w.heap.size, 3, none⟩) (u := (.int .i64 Y)) hlt0).put1 (p := ⟨w.heap.size, 4, none⟩) (u := (.int .i64 n')) hlt0)
    go_wp2
    generalize ((((((wb.setCell ⟨b, 4, none⟩ (.int .i64 n')).setCell ⟨w.heap.size, 0, none⟩ (.int .i64 x)).setCell ⟨w.heap.size, 1, none⟩ (.int .i64 y)).setCell ⟨w.heap.size, 2, none⟩ (.int .i64 X)).setCell ⟨w.heap.size, 3, none⟩ (.int .i64 Y)).setCell ⟨w.heap.size, 4, none⟩ (.int .i64 n')) = WF at P1 P2 P3 ⊢
    have C0 : WF.cell? ⟨w.heap.size, 0, none⟩ = some (.int .i64 x) := P1.out.cell 0
    have C1 : WF.cell? ⟨w.heap.size, 1, none⟩ = some (.int .i64 y) := P1.out.cell 1
    have C2 : WF.cell? ⟨w.heap.size, 2, none⟩ = some (.int .i64 X) := P1.out.cell 2
    have C3 : WF.cell? ⟨w.heap.size, 3, none⟩ = some (.int .i64 Y) := P1.out.cell 3
    have C4 : WF.cell? ⟨w.heap.size, 4, none⟩ = some (.int .i64 n') := P1.out.cell 4
    refine bodyPost_ret (v := .agg #[.int .i64 x, .int .i64 y, .int .i64 X, .int .i64 Y, .int .i64 n']) (by simp [results, Tryz.results53, go_sem, C0, C1, C2, C3, C4]) rfl ?_
    exact ⟨⟨⟨x, y⟩, ⟨X, Y⟩, n'⟩, rfl, by unfold mvG; dsimp only; omega, P3.out.mono (by omega), P2.out⟩
  have ne0 : ((r : Int) == 0) = false := beq_eq_false_iff_ne.2 e0
  by_cases e1 : r = 1
  · subst e1
    go_wp2_with fail
    refine (anySpot_any g (k + 26) _ hca (by omega)).mono ?_
    rintro e wb ⟨s, t, rfl, s0, s1, t0, t1, hcb, hob⟩
    have Ob := Lib.hid (Oa.out.trans hob)
    have Zb := Lib.hid (hob.blk Za.out (by omega))
    have Bb := hob.blk Ba.out (by omega)
    have Cb := Lib.hid hcb
    have d0_ := Bb.cell 0
    have d1_ := Bb.cell 1
    have d2_ := Bb.cell 2
    have d3_ := Bb.cell 3
    have d4_ := Bb.cell 4
    simp only [List.getElem?_toArray, List.getElem?_cons_zero, List.getElem?_cons_succ] at d0_ d1_ d2_ d3_ d4_
    have d0f_ := Bb.frozen 0
    have d1f_ := Bb.frozen 1
    have d2f_ := Bb.frozen 2
    have d3f_ := Bb.frozen 3
    have d4f_ := Bb.frozen 4
    have z0_ := Zb.out.cell 0
    have z1_ := Zb.out.cell 1
    have z2_ := Zb.out.cell 2
    have z3_ := Zb.out.cell 3
    have z4_ := Zb.out.cell 4
    simp only [List.getElem?_toArray, List.getElem?_cons_zero, List.getElem?_cons_succ] at z0_ z1_ z2_ z3_ z4_
    have z0f_ := Zb.out.frozen 0
    have z1f_ := Zb.out.frozen 1
    have z2f_ := Zb.out.frozen 2
    have z3f_ := Zb.out.frozen 3
    have z4f_ := Zb.out.frozen 4
    have Oc := Lib.hid ((Ob.out.set (p := ⟨b, 0, none⟩) (.inr (by simp; omega)) (.int .i64 s)).set (p := ⟨b, 1, none⟩) (.inr (by simp; omega)) (.int .i64 t))
    have Zc := Lib.hid ((Zb.out.other (g' := b) (j := 0) (by omega) (.int .i64 s)).other (g' := b) (j := 1) (by omega) (.int .i64 t))
    have Cc := Lib.hid ((Cb.out.put1 (p := ⟨b, 0, none⟩) (u := .int .i64 s) (by simp; omega)).put1 (p := ⟨b, 1, none⟩) (u := .int .i64 t) (by simp; omega))
    clear hob hcb Oa Za Ba Bb hca Ob Zb Cb
    have P1 := Lib.hid (put5 Zc.out (.int .i64 s) (.int .i64 t) (.int .i64 X) (.int .i64 Y) (.int .i64 n))
    have P2 := Lib.hid (((((Oc.out.set (p := ⟨w.heap.size, 0, none⟩) (.inr (Nat.le_refl _)) (.int .i64 s)).set (p := ⟨w.heap.size, 1, none⟩) (.inr (Nat.le_refl _)) (.int .i64 t)).set (p := ⟨w.heap.size, 2, none⟩) (.inr (Nat.le_refl _)) (.int .i64 X)).set (p := ⟨w.heap.size, 3, none⟩) (.inr (Nat.le_refl _)) (.int .i64 Y)).set (p := ⟨w.heap.size, 4, none⟩) (.inr (Nat.le_refl _)) (.int .i64 n))
    have P3 := Lib.hid (((((Cc.out.put1 (p := ⟨w.heap.size, 0, none⟩) (u := (.int .i64 s)) hlt0).put1 (p := ⟨w.heap.size, 1, none⟩) (u := (.int .i64 t)) hlt0).put1 (p := ⟨w.heap.size, 2, none⟩) (u := (.int .i64 X)) hlt0).put1 (p := ⟨w.heap.size, 3, none⟩) (u := (.int .i64 Y)) hlt0).put1 (p := ⟨w.heap.size, 4, none⟩) (u := (.int .i64 n)) hlt0)
    go_wp2
    generalize (((((((wb.setCell ⟨b, 0, none⟩ (.int .i64 s)).setCell ⟨b, 1, none⟩ (.int .i64 t)).setCell ⟨w.heap.size, 0, none⟩ (.int .i64 s)).setCell ⟨w.heap.size, 1, none⟩ (.int .i64 t)).setCell ⟨w.heap.size, 2, none⟩ (.int .i64 X)).setCell ⟨w.heap.size, 3, none⟩ (.int .i64 Y)).setCell ⟨w.heap.size, 4, none⟩ (.int .i64 n)) = WF at P1 P2 P3 ⊢
    have C0 : WF.cell? ⟨w.heap.size, 0, none⟩ = some (.int .i64 s) := P1.out.cell 0
    have C1 : WF.cell? ⟨w.heap.size, 1, none⟩ = some (.int .i64 t) := P1.out.cell 1
    have C2 : WF.cell? ⟨w.heap.size, 2, none⟩ = some (.int .i64 X) := P1.out.cell 2
    have C3 : WF.cell? ⟨w.heap.size, 3, none⟩ = some (.int .i64 Y) := P1.out.cell 3
    have C4 : WF.cell? ⟨w.heap.size, 4, none⟩ = some (.int .i64 n) := P1.out.cell 4
    refine bodyPost_ret (v := .agg #[.int .i64 s, .int .i64 t, .int .i64 X, .int .i64 Y, .int .i64 n]) (by simp [results, Tryz.results53, go_sem, C0, C1, C2, C3, C4]) rfl ?_
    exact ⟨⟨⟨s, t⟩, ⟨X, Y⟩, n⟩, rfl, by unfold mvG; dsimp only; omega, P3.out.mono (by omega), P2.out⟩
  have ne1 : ((r : Int) == 1) = false := beq_eq_false_iff_ne.2 e1
  by_cases e2 : r = 2
  · subst e2
    go_wp2_with fail
    refine (anySpot_any g (k + 26) _ hca (by omega)).mono ?_
    rintro e wb ⟨s, t, rfl, s0, s1, t0, t1, hcb, hob⟩
    have Ob := Lib.hid (Oa.out.trans hob)
    have Zb := Lib.hid (hob.blk Za.out (by omega))
    have Bb := hob.blk Ba.out (by omega)
    have Cb := Lib.hid hcb
    have d0_ := Bb.cell 0
    have d1_ := Bb.cell 1
    have d2_ := Bb.cell 2
    have d3_ := Bb.cell 3
    have d4_ := Bb.cell 4
    simp only [List.getElem?_toArray, List.getElem?_cons_zero, List.getElem?_cons_succ] at d0_ d1_ d2_ d3_ d4_
    have d0f_ := Bb.frozen 0
    have d1f_ := Bb.frozen 1
    have d2f_ := Bb.frozen 2
    have d3f_ := Bb.frozen 3
    have d4f_ := Bb.frozen 4
    have z0_ := Zb.out.cell 0
    have z1_ := Zb.out.cell 1
    have z2_ := Zb.out.cell 2
    have z3_ := Zb.out.cell 3
    have z4_ := Zb.out.cell 4
    simp only [List.getElem?_toArray, List.getElem?_cons_zero, List.getElem?_cons_succ] at z0_ z1_ z2_ z3_ z4_
    have z0f_ := Zb.out.frozen 0
    have z1f_ := Zb.out.frozen 1
    have z2f_ := Zb.out.frozen 2
    have z3f_ := Zb.out.frozen 3
    have z4f_ := Zb.out.frozen 4
    have Oc := Lib.hid ((Ob.out.set (p := ⟨b, 2, none⟩) (.inr (by simp; omega)) (.int .i64 s)).set (p := ⟨b, 3, none⟩) (.inr (by simp; omega)) (.int .i64 t))
    have Zc := Lib.hid ((Zb.out.other (g' := b) (j := 2) (by omega) (.int .i64 s)).other (g' := b) (j := 3) (by omega) (.int .i64 t))
    have Cc := Lib.hid ((Cb.out.put1 (p := ⟨b, 2, none⟩) (u := .int .i64 s) (by simp; omega)).put1 (p := ⟨b, 3, none⟩) (u := .int .i64 t) (by simp; omega))
    clear hob hcb Oa Za Ba Bb hca Ob Zb Cb
    have P1 := Lib.hid (put5 Zc.out (.int .i64 x) (.int .i64 y) (.int .i64 s) (.int .i64 t) (.int .i64 n))
    have P2 := Lib.hid (((((Oc.out.set (p := ⟨w.heap.size, 0, none⟩) (.inr (Nat.le_refl _)) (.int .i64 x)).set (p := ⟨w.heap.size, 1, none⟩) (.inr (Nat.le_refl _)) (.int .i64 y)).set (p := ⟨w.heap.size, 2, none⟩) (.inr (Nat.le_refl _)) (.int .i64 s)).set (p := ⟨w.heap.size, 3, none⟩) (.inr (Nat.le_refl _)) (.int .i64 t)).set (p := ⟨w.heap.size, 4, none⟩) (.inr (Nat.le_refl _)) (.int .i64 n))
    have P3 := Lib.hid (((((Cc.out.put1 (p := ⟨w.heap.size, 0, none⟩) (u := (.int .i64 x)) hlt0).put1 (p := ⟨w.heap.size, 1, none⟩) (u := (.int .i64 y)) hlt0).put1 (p := ⟨w.heap.size, 2, none⟩) (u := (.int .i64 s)) hlt0).put1 (p := ⟨w.heap.size, 3, none⟩) (u := (.int .i64 t)) hlt0).put1 (p := ⟨w.heap.size, 4, none⟩) (u := (.int .i64 n)) hlt0)
    go_wp2
    generalize (((((((wb.setCell ⟨b, 2, none⟩ (.int .i64 s)).setCell ⟨b, 3, none⟩ (.int .i64 t)).setCell ⟨w.heap.size, 0, none⟩ (.int .i64 x)).setCell ⟨w.heap.size, 1, none⟩ (.int .i64 y)).setCell ⟨w.heap.size, 2, none⟩ (.int .i64 s)).setCell ⟨w.heap.size, 3, none⟩ (.int .i64 t)).setCell ⟨w.heap.size, 4, none⟩ (.int .i64 n)) = WF at P1 P2 P3 ⊢
    have C0 : WF.cell? ⟨w.heap.size, 0, none⟩ = some (.int .i64 x) := P1.out.cell 0
    have C1 : WF.cell? ⟨w.heap.size, 1, none⟩ = some (.int .i64 y) := P1.out.cell 1
    have C2 : WF.cell? ⟨w.heap.size, 2, none⟩ = some (.int .i64 s) := P1.out.cell 2
    have C3 : WF.cell? ⟨w.heap.size, 3, none⟩ = some (.int .i64 t) := P1.out.cell 3
    have C4 : WF.cell? ⟨w.heap.size, 4, none⟩ = some (.int .i64 n) := P1.out.cell 4
    refine bodyPost_ret (v := .agg #[.int .i64 x, .int .i64 y, .int .i64 s, .int .i64 t, .int .i64 n]) (by simp [results, Tryz.results53, go_sem, C0, C1, C2, C3, C4]) rfl ?_
    exact ⟨⟨⟨x, y⟩, ⟨s, t⟩, n⟩, rfl, by unfold mvG; dsimp only; omega, P3.out.mono (by omega), P2.out⟩
  have ne2 : ((r : Int) == 2) = false := beq_eq_false_iff_ne.2 e2
  have Bb := Ba.out
  have Ca := Lib.hid hca
  have d0_ := Bb.cell 0
  have d1_ := Bb.cell 1
  have d2_ := Bb.cell 2
  have d3_ := Bb.cell 3
  have d4_ := Bb.cell 4
  simp only [List.getElem?_toArray, List.getElem?_cons_zero, List.getElem?_cons_succ] at d0_ d1_ d2_ d3_ d4_
  have d0f_ := Bb.frozen 0
  have d1f_ := Bb.frozen 1
  have d2f_ := Bb.frozen 2
  have d3f_ := Bb.frozen 3
  have d4f_ := Bb.frozen 4
  have z0_ := Za.out.cell 0
  have z1_ := Za.out.cell 1
  have z2_ := Za.out.cell 2
  have z3_ := Za.out.cell 3
  have z4_ := Za.out.cell 4
  simp only [List.getElem?_toArray, List.getElem?_cons_zero, List.getElem?_cons_succ] at z0_ z1_ z2_ z3_ z4_
  have z0f_ := Za.out.frozen 0
  have z1f_ := Za.out.frozen 1
  have z2f_ := Za.out.frozen 2
  have z3f_ := Za.out.frozen 3
  have z4f_ := Za.out.frozen 4
  clear hca Bb Ba
  have P1 := Lib.hid (put5 Za.out (.int .i64 x) (.int .i64 y) (.int .i64 X) (.int .i64 Y) (.int .i64 n))
  have P2 := Lib.hid (((((Oa.out.set (p := ⟨w.heap.size, 0, none⟩) (.inr (Nat.le_refl _)) (.int .i64 x)).set (p := ⟨w.heap.size, 1, none⟩) (.inr (Nat.le_refl _)) (.int .i64 y)).set (p := ⟨w.heap.size, 2, none⟩) (.inr (Nat.le_refl _)) (.int .i64 X)).set (p := ⟨w.heap.size, 3, none⟩) (.inr (Nat.le_refl _)) (.int .i64 Y)).set (p := ⟨w.heap.size, 4, none⟩) (.inr (Nat.le_refl _)) (.int .i64 n))
  have P3 := Lib.hid (((((Ca.out.put1 (p := ⟨w.heap.size, 0, none⟩) (u := (.int .i64 x)) hlt0).put1 (p := ⟨w.heap.size, 1, none⟩) (u := (.int .i64 y)) hlt0).put1 (p := ⟨w.heap.size, 2, none⟩) (u := (.int .i64 X)) hlt0).put1 (p := ⟨w.heap.size, 3, none⟩) (u := (.int .i64 Y)) hlt0).put1 (p := ⟨w.heap.size, 4, none⟩) (u := (.int .i64 n)) hlt0)
  go_wp2
  generalize (((((wa.setCell ⟨w.heap.size, 0, none⟩ (.int .i64 x)).setCell ⟨w.heap.size, 1, none⟩ (.int .i64 y)).setCell ⟨w.heap.size, 2, none⟩ (.int .i64 X)).setCell ⟨w.heap.size, 3, none⟩ (.int .i64 Y)).setCell ⟨w.heap.size, 4, none⟩ (.int .i64 n)) = WF at P1 P2 P3 ⊢
  have C0 : WF.cell? ⟨w.heap.size, 0, none⟩ = some (.int .i64 x) := P1.out.cell 0
  have C1 : WF.cell? ⟨w.heap.size, 1, none⟩ = some (.int .i64 y) := P1.out.cell 1
  have C2 : WF.cell? ⟨w.heap.size, 2, none⟩ = some (.int .i64 X) := P1.out.cell 2
  have C3 : WF.cell? ⟨w.heap.size, 3, none⟩ = some (.int .i64 Y) := P1.out.cell 3
  have C4 : WF.cell? ⟨w.heap.size, 4, none⟩ = some (.int .i64 n) := P1.out.cell 4
  refine bodyPost_ret (v := .agg #[.int .i64 x, .int .i64 y, .int .i64 X, .int .i64 Y, .int .i64 n]) (by simp [results, Tryz.results53, go_sem, C0, C1, C2, C3, C4]) rfl ?_
  exact ⟨⟨⟨x, y⟩, ⟨X, Y⟩, n⟩, rfl, by unfold mvG; dsimp only; omega, P3.out.mono (by omega), P2.out⟩
end Go.Proofs.YthehcjfljjfnmaaGreat
