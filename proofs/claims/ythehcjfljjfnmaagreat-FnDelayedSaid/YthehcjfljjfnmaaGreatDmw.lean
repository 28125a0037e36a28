/-
  Draws of moves: two moves together.
-/
import Derived.Test.YthehcjfljjfnmaaGreatDmv
namespace Go.Proofs.YthehcjfljjfnmaaGreat
open Go.RowKit

/-- The boxes of two moves, and the results'. -/
structure TgS (w wx : World) (g K z ba bb : Nat) (c1 c2 : Array Value) : Prop where
  a : Blk wx ba c1 26
  b : Blk wx bb c2 26
  z0 : Blk wx z #[.int .i64 0, .int .i64 0, .int .i64 0, .int .i64 0, .int .i64 0] 26
  z1 : Blk wx (z + 1) #[.int .i64 0, .int .i64 0, .int .i64 0, .int .i64 0, .int .i64 0] 26
  cur : Cur wx g K
  oth : Oth g w wx
  o : g < z ∧ w.heap.size ≤ z ∧ z + 1 < ba ∧ ba < bb
theorem TgS.call {w wx w' : World} {g K K' z ba bb : Nat} {c1 c2 : Array Value} (h : TgS w wx g K z ba bb c1 c2) (ho : Oth g wx w') (hc : Cur w' g K') : TgS w w' g K' z ba bb c1 c2 := by
  obtain ⟨o1, o2, o3, o4⟩ := h.o
  exact ⟨ho.blk h.a (by omega), ho.blk h.b (by omega), ho.blk h.z0 (by omega), ho.blk h.z1 (by omega), hc, h.oth.trans ho, h.o⟩
theorem TgS.put {w wx : World} {g K z ba bb : Nat} {c1 c2 : Array Value} (h : TgS w wx g K z ba bb c1 c2) (j : Nat) (v : Value) : TgS w (wx.setCell ⟨bb, j, none⟩ v) g K z ba bb c1 (c2.setIfInBounds j v) := by
  obtain ⟨o1, o2, o3, o4⟩ := h.o
  exact ⟨h.a.other (by omega) v, h.b.set j v, h.z0.other (by omega) v, h.z1.other (by omega) v, h.cur.put1 (by show g < bb; omega), h.oth.set (.inr (by show w.heap.size ≤ bb; omega)) v, h.o⟩
theorem TgS.drew {w wx : World} {g K z ba bb : Nat} {c1 c2 : Array Value} (h : TgS w wx g K z ba bb c1 c2) : TgS w wx.drew g K z ba bb c1 c2 := ⟨h.a, h.b, h.z0, h.z1, h.cur, h.oth.drew, h.o⟩
theorem TgS.puts5 {w wx : World} {g K z ba bb : Nat} {c1 : Array Value} {a0 a1 a2 a3 a4 : Value} (h : TgS w wx g K z ba bb c1 #[a0, a1, a2, a3, a4]) (v0 v1 v2 v3 v4 : Value) : TgS w (((((wx.setCell ⟨bb, 0, none⟩ v0).setCell ⟨bb, 1, none⟩ v1).setCell ⟨bb, 2, none⟩ v2).setCell ⟨bb, 3, none⟩ v3).setCell ⟨bb, 4, none⟩ v4) g K z ba bb c1 #[v0, v1, v2, v3, v4] := by
  have := ((((h.put 0 v0).put 1 v1).put 2 v2).put 3 v3).put 4 v4
  simpa using this
theorem TgS.mono {w wx : World} {g K K' z ba bb : Nat} {c1 c2 : Array Value} (h : TgS w wx g K z ba bb c1 c2) (hk : K ≤ K') : TgS w wx g K' z ba bb c1 c2 := ⟨h.a, h.b, h.z0, h.z1, h.cur.mono hk, h.oth, h.o⟩
abbrev st5 (w : World) (z : Nat) (v0 v1 v2 v3 v4 : Value) : World := ((((w.setCell ⟨z, 0, none⟩ v0).setCell ⟨z, 1, none⟩ v1).setCell ⟨z, 2, none⟩ v2).setCell ⟨z, 3, none⟩ v3).setCell ⟨z, 4, none⟩ v4
theorem keepF {w : World} {b q o j : Nat} {u x : Value} (h : w.cell? ⟨b, o, none⟩ = some u) (hne : q ≠ b) : (w.setCell ⟨q, j, none⟩ x).cell? ⟨b, o, none⟩ = some u := (World.cell?_setCell_far _ _ _ _ hne).trans h
theorem keepF5 {w : World} {b q o : Nat} {u v0 v1 v2 v3 v4 : Value} (h : w.cell? ⟨b, o, none⟩ = some u) (hne : q ≠ b) : (((((w.setCell ⟨q, 0, none⟩ v0).setCell ⟨q, 1, none⟩ v1).setCell ⟨q, 2, none⟩ v2).setCell ⟨q, 3, none⟩ v3).setCell ⟨q, 4, none⟩ v4).cell? ⟨b, o, none⟩ = some u :=
  keepF (keepF (keepF (keepF (keepF h hne) hne) hne) hne) hne
abbrev S10 (w : World) (ba bb : Nat) (m n : Mv) : Prop := w.cell? ⟨ba, 0, none⟩ = some (.int .i64 m.f.x) ∧ w.cell? ⟨ba, 1, none⟩ = some (.int .i64 m.f.y) ∧ w.cell? ⟨ba, 2, none⟩ = some (.int .i64 m.t.x) ∧ w.cell? ⟨ba, 3, none⟩ = some (.int .i64 m.t.y) ∧ w.cell? ⟨ba, 4, none⟩ = some (.int .i64 m.c) ∧ w.cell? ⟨bb, 0, none⟩ = some (.int .i64 n.f.x) ∧ w.cell? ⟨bb, 1, none⟩ = some (.int .i64 n.f.y) ∧ w.cell? ⟨bb, 2, none⟩ = some (.int .i64 n.t.x) ∧ w.cell? ⟨bb, 3, none⟩ = some (.int .i64 n.t.y) ∧ w.cell? ⟨bb, 4, none⟩ = some (.int .i64 n.c)
theorem S10.drew {w : World} {ba bb : Nat} {m n : Mv} (h : S10 w ba bb m n) : S10 w.drew ba bb m n := h
theorem S10.put {w : World} {ba bb q : Nat} {m n : Mv} {v0 v1 v2 v3 v4 : Value} (h1 : q ≠ ba) (h2 : q ≠ bb) (h : S10 w ba bb m n) : S10 (((((w.setCell ⟨q, 0, none⟩ v0).setCell ⟨q, 1, none⟩ v1).setCell ⟨q, 2, none⟩ v2).setCell ⟨q, 3, none⟩ v3).setCell ⟨q, 4, none⟩ v4) ba bb m n := by
  obtain ⟨a0, a1, a2, a3, a4, b0, b1, b2, b3, b4⟩ := h
  exact ⟨keepF5 a0 h1, keepF5 a1 h1, keepF5 a2 h1, keepF5 a3 h1, keepF5 a4 h1, keepF5 b0 h2, keepF5 b1 h2, keepF5 b2 h2, keepF5 b3 h2, keepF5 b4 h2⟩
theorem TgS.fin {w wx : World} {g K z ba bb : Nat} {c1 c2 : Array Value} (h : TgS w wx g K z ba bb c1 c2) (v0 v1 v2 v3 v4 u0 u1 u2 u3 u4 : Value) :
    Blk (st5 (st5 wx z v0 v1 v2 v3 v4) (z + 1) u0 u1 u2 u3 u4) z #[v0, v1, v2, v3, v4] 26 ∧ Blk (st5 (st5 wx z v0 v1 v2 v3 v4) (z + 1) u0 u1 u2 u3 u4) (z + 1) #[u0, u1, u2, u3, u4] 26 ∧ Cur (st5 (st5 wx z v0 v1 v2 v3 v4) (z + 1) u0 u1 u2 u3 u4) g K ∧ Oth g w (st5 (st5 wx z v0 v1 v2 v3 v4) (z + 1) u0 u1 u2 u3 u4) := by
  obtain ⟨o1, o2, o3, o4⟩ := h.o
  have n1 : z ≠ z + 1 := by omega
  have n2 : z + 1 ≠ z := by omega
  refine ⟨?_, ?_, ?_, ?_⟩
  · exact (((((put5 h.z0 v0 v1 v2 v3 v4).other n1 u0).other n1 u1).other n1 u2).other n1 u3).other n1 u4
  · exact put5 (((((h.z1.other n2 v0).other n2 v1).other n2 v2).other n2 v3).other n2 v4) u0 u1 u2 u3 u4
  · have a := ((((h.cur.put1 (p := ⟨z, 0, none⟩) (u := v0) o1).put1 (p := ⟨z, 1, none⟩) (u := v1) o1).put1 (p := ⟨z, 2, none⟩) (u := v2) o1).put1 (p := ⟨z, 3, none⟩) (u := v3) o1).put1 (p := ⟨z, 4, none⟩) (u := v4) o1
    have o1' : g < z + 1 := by omega
    exact ((((a.put1 (p := ⟨z + 1, 0, none⟩) (u := u0) o1').put1 (p := ⟨z + 1, 1, none⟩) (u := u1) o1').put1 (p := ⟨z + 1, 2, none⟩) (u := u2) o1').put1 (p := ⟨z + 1, 3, none⟩) (u := u3) o1').put1 (p := ⟨z + 1, 4, none⟩) (u := u4) o1'
  · have a := ((((h.oth.set (p := ⟨z, 0, none⟩) (.inr o2) v0).set (p := ⟨z, 1, none⟩) (.inr o2) v1).set (p := ⟨z, 2, none⟩) (.inr o2) v2).set (p := ⟨z, 3, none⟩) (.inr o2) v3).set (p := ⟨z, 4, none⟩) (.inr o2) v4
    have o2' : w.heap.size ≤ z + 1 := by omega
    exact ((((a.set (p := ⟨z + 1, 0, none⟩) (.inr o2') u0).set (p := ⟨z + 1, 1, none⟩) (.inr o2') u1).set (p := ⟨z + 1, 2, none⟩) (.inr o2') u2).set (p := ⟨z + 1, 3, none⟩) (.inr o2') u3).set (p := ⟨z + 1, 4, none⟩) (.inr o2') u4
/-- Two moves are drawn. -/
def Dvv (g k : Nat) (w : World) (e : Ending) (w' : World) : Prop := ∃ m1 m2 : Mv, e = .returned (.tuple #[.agg #[.int .i64 m1.f.x, .int .i64 m1.f.y, .int .i64 m1.t.x, .int .i64 m1.t.y, .int .i64 m1.c], .agg #[.int .i64 m2.f.x, .int .i64 m2.f.y, .int .i64 m2.t.x, .int .i64 m2.t.y, .int .i64 m2.c]]) ∧ smMv m1 ∧ smMv m2 ∧ Cur w' g k ∧ Oth g w w'

set_option maxHeartbeats 12800000 in
set_option maxRecDepth 100000 in
theorem together_any (g k : Nat) (w : World) (h : Cur w g k) (hk : k ≤ 500000) : Calls Tryz.prog 25 #[.pointer (some ⟨g, 0, none⟩)] w (Dvv g (k + 200) w) := by
  have hlt0 := h.lt
  have HZ0 := Lib.hid ((Blk.new w #[.int .i64 0, .int .i64 0, .int .i64 0, .int .i64 0, .int .i64 0] 26).alloc (.cells #[.int .i64 0, .int .i64 0, .int .i64 0, .int .i64 0, .int .i64 0] 26))
  have HZ1 := Lib.hid (show Blk ((w.alloc (.cells #[.int .i64 0, .int .i64 0, .int .i64 0, .int .i64 0, .int .i64 0] 26)).alloc (.cells #[.int .i64 0, .int .i64 0, .int .i64 0, .int .i64 0, .int .i64 0] 26)) (w.heap.size + 1) #[.int .i64 0, .int .i64 0, .int .i64 0, .int .i64 0, .int .i64 0] 26 from blkN (by simp))
  have HO := Lib.hid (((Oth.refl g w).alloc (.cells #[.int .i64 0, .int .i64 0, .int .i64 0, .int .i64 0, .int .i64 0] 26)).alloc (.cells #[.int .i64 0, .int .i64 0, .int .i64 0, .int .i64 0, .int .i64 0] 26))
  have HC := Lib.hid ((h.alloc (.cells #[.int .i64 0, .int .i64 0, .int .i64 0, .int .i64 0, .int .i64 0] 26)).alloc (.cells #[.int .i64 0, .int .i64 0, .int .i64 0, .int .i64 0, .int .i64 0] 26))
  clear h
  go_enter Tryz.func25, Tryz.ntmps25
  go_wp2_with fail
  generalize ((w.alloc (.cells #[.int .i64 0, .int .i64 0, .int .i64 0, .int .i64 0, .int .i64 0] 26)).alloc (.cells #[.int .i64 0, .int .i64 0, .int .i64 0, .int .i64 0, .int .i64 0] 26)) = W0 at *
  refine (move_any g k _ HC.out (by omega)).mono ?_
  rintro e w1 ⟨m1, rfl, hm1, hc1, ho1⟩
  have O1 := Lib.hid (HO.out.trans ho1)
  have Z0 := Lib.hid (ho1.blk HZ0.out (by omega))
  have Z1 := Lib.hid (ho1.blk HZ1.out (by omega))
  clear ho1 HO HZ0 HZ1 HC
  go_wp2_with fail
  refine (move_any g (k + 60) _ hc1 (by omega)).mono ?_
  rintro e w2 ⟨m2, rfl, hm2, hc2, ho2⟩
  have O2 := Lib.hid (O1.out.trans ho2)
  have Y0 := Lib.hid (ho2.blk Z0.out (by omega))
  have Y1 := Lib.hid (ho2.blk Z1.out (by omega))
  have hz2 := Y1.out.lt
  clear ho2 O1 Z0 Z1 hc1
  go_wp2_with fail
  have S0 := Lib.hid (show TgS w ((w2.alloc (.cells #[.int .i64 m1.f.x, .int .i64 m1.f.y, .int .i64 m1.t.x, .int .i64 m1.t.y, .int .i64 m1.c] 26)).alloc (.cells #[.int .i64 m2.f.x, .int .i64 m2.f.y, .int .i64 m2.t.x, .int .i64 m2.t.y, .int .i64 m2.c] 26)) g (k + 120) w.heap.size w2.heap.size (w2.heap.size + 1) #[.int .i64 m1.f.x, .int .i64 m1.f.y, .int .i64 m1.t.x, .int .i64 m1.t.y, .int .i64 m1.c] #[.int .i64 m2.f.x, .int .i64 m2.f.y, .int .i64 m2.t.x, .int .i64 m2.t.y, .int .i64 m2.c] from
    ⟨(Blk.new _ _ _).alloc _, blkN (by simp), (Y0.out.alloc _).alloc _, (Y1.out.alloc _).alloc _, (hc2.alloc _).alloc _, (O2.out.alloc _).alloc _, ⟨hlt0, Nat.le_refl _, hz2, by omega⟩⟩)
  obtain ⟨ba, hba⟩ : ∃ b, w2.heap.size = b := ⟨_, rfl⟩
  obtain ⟨bb, hbb⟩ : ∃ b, ba + 1 = b := ⟨_, rfl⟩
  rw [hba, hbb] at S0
  rw [hba, hbb]
  generalize ((w2.alloc (.cells #[.int .i64 m1.f.x, .int .i64 m1.f.y, .int .i64 m1.t.x, .int .i64 m1.t.y, .int .i64 m1.c] 26)).alloc (.cells #[.int .i64 m2.f.x, .int .i64 m2.f.y, .int .i64 m2.t.x, .int .i64 m2.t.y, .int .i64 m2.c] 26)) = W2 at *
  clear O2 Y0 Y1 hc2 hz2 hba hbb
  refine (pick_any g (k + 120) 4 _ 3 S0.out.cur (by omega) (by omega) (by omega) (by omega)).mono ?_
  rintro e w3 ⟨r, rfl, r0, r1, hc3, ho3⟩
  have S1 := Lib.hid (S0.out.call ho3 hc3)
  clear ho3 hc3 S0
  by_cases e0 : r = 0
  · subst e0
    have a0 := S1.out.a.cell 0
    have a1 := S1.out.a.cell 1
    have a2 := S1.out.a.cell 2
    have a3 := S1.out.a.cell 3
    have a4 := S1.out.a.cell 4
    simp only [List.getElem?_toArray, List.getElem?_cons_zero, List.getElem?_cons_succ] at a0 a1 a2 a3 a4
    have b0 := S1.out.b.cell 0
    have b1 := S1.out.b.cell 1
    have b2 := S1.out.b.cell 2
    have b3 := S1.out.b.cell 3
    have b4 := S1.out.b.cell 4
    simp only [List.getElem?_toArray, List.getElem?_cons_zero, List.getElem?_cons_succ] at b0 b1 b2 b3 b4
    have bf0 := S1.out.b.frozen 0
    have bf1 := S1.out.b.frozen 1
    have bf2 := S1.out.b.frozen 2
    have bf3 := S1.out.b.frozen 3
    have bf4 := S1.out.b.frozen 4
    have S2 := Lib.hid (S1.out.puts5 (.int .i64 m1.t.x) (.int .i64 m1.t.y) (.int .i64 m1.f.x) (.int .i64 m1.f.y) (.int .i64 0))
    go_upto_region 5 with (fail)
    clear a0 a1 a2 a3 a4 b0 bf0 b1 bf1 b2 bf2 b3 bf3 b4 bf4
    generalize (((((w3.setCell ⟨bb, 0, none⟩ (.int .i64 m1.t.x)).setCell ⟨bb, 1, none⟩ (.int .i64 m1.t.y)).setCell ⟨bb, 2, none⟩ (.int .i64 m1.f.x)).setCell ⟨bb, 3, none⟩ (.int .i64 m1.f.y)).setCell ⟨bb, 4, none⟩ (.int .i64 0)) = w4 at *
    have d0 := S2.out.b.cell 0
    have f0 := S2.out.b.frozen 0
    simp only [List.getElem?_toArray, List.getElem?_cons_zero, List.getElem?_cons_succ] at d0
    have CJ := Lib.hid (fun (w' : World) (h : Cur w' g (k + 122)) => pick_any g (k + 122) 17 w' 16 h (by omega) (by omega) (by omega) (by omega))
    go_region_with (go_at_call 54; (first | (refine (CJ.out _ ?_).mono ?_) | fail); (exact curD S2.out.cur); rintro e w5 ⟨q, rfl, q0, q1, hc5, ho5⟩; have S3 := S2.out.drew.call ho5 hc5; have e0 := S3.b.cell 0; have e1 := S3.b.frozen 0; (try simp at e0))
    all_goals
      have hw1 : IntKind.i64.wrap (q - 8) = q - 8 := IntWalk.i64_in _ (by omega)
      have hw2 : IntKind.i64.wrap (m1.t.x + (q - 8)) = m1.t.x + (q - 8) := IntWalk.i64_in _ (by have := hm1.2.2.1; omega)
      rw [hw1, hw2]
      obtain ⟨m3, hm3, S3⟩ : ∃ m3 : Mv, smMv m3 ∧ Hid (TgS w (w5.setCell ⟨bb, 0, none⟩ (.int .i64 (m1.t.x + (q - 8)))) g (k + 124) w.heap.size ba bb #[.int .i64 m1.f.x, .int .i64 m1.f.y, .int .i64 m1.t.x, .int .i64 m1.t.y, .int .i64 m1.c] #[.int .i64 m3.f.x, .int .i64 m3.f.y, .int .i64 m3.t.x, .int .i64 m3.t.y, .int .i64 m3.c]) :=
        ⟨⟨⟨m1.t.x + (q - 8), m1.t.y⟩, m1.f, 0⟩, by have := hm1; unfold mvG at this; unfold smMv; dsimp only; omega, Lib.hid (by simpa using S3.put 0 (.int .i64 (m1.t.x + (q - 8))))⟩
      generalize (w5.setCell ⟨bb, 0, none⟩ (.int .i64 (m1.t.x + (q - 8)))) = w6 at S3 ⊢
      clear hw1 hw2 e0 e1 d0 f0 S1 S2 ho5 hc5 CJ
      (
        go_wp2_with fail
        refine (one_any g (k + 124) 12 _ S3.out.cur (by omega) (by omega)).mono ?_
        rintro e w7 ⟨b_, rfl, hc7, ho7⟩
        have S4 := Lib.hid (S3.out.call ho7 (hc7.mono (k' := k + 150) (by omega)))
        clear S3 ho7 hc7
        go_upto_if 49 with (fail)
        go_cut [] from 6 to 52 (fun wx => ∃ m4 : Mv, smMv m4 ∧ Hid (TgS w wx g (k + 150) w.heap.size ba bb #[.int .i64 m1.f.x, .int .i64 m1.f.y, .int .i64 m1.t.x, .int .i64 m1.t.y, .int .i64 m1.c] #[.int .i64 m4.f.x, .int .i64 m4.f.y, .int .i64 m4.t.x, .int .i64 m4.t.y, .int .i64 m4.c]))
        case first =>
          cases b_
          · have ac := S4.out.a.cell 4
            have bc := S4.out.b.cell 4
            simp only [List.getElem?_toArray, List.getElem?_cons_zero, List.getElem?_cons_succ] at ac bc
            have bf := S4.out.b.frozen 4
            have S5 := Lib.hid (S4.out.put 4 (.int .i64 m1.c))
            go_wp2_with fail
            go_meet
            exact ⟨⟨m3.f, m3.t, m1.c⟩, by have := hm1; have := hm3; unfold mvG smMv at *; dsimp only; omega, Lib.hid (by simpa using S5.out)⟩
          · go_wp2_with fail
            go_meet
            exact ⟨m3, hm3, S4⟩
        case rest =>
          obtain ⟨m4, hm4, S5⟩ := hcut
          clear S4
          generalize wc = w8 at S5 ⊢
          have a0 := S5.out.a.cell 0
          have a1 := S5.out.a.cell 1
          have a2 := S5.out.a.cell 2
          have a3 := S5.out.a.cell 3
          have a4 := S5.out.a.cell 4
          simp only [List.getElem?_toArray, List.getElem?_cons_zero, List.getElem?_cons_succ] at a0 a1 a2 a3 a4
          have b0 := S5.out.b.cell 0
          have b1 := S5.out.b.cell 1
          have b2 := S5.out.b.cell 2
          have b3 := S5.out.b.cell 3
          have b4 := S5.out.b.cell 4
          simp only [List.getElem?_toArray, List.getElem?_cons_zero, List.getElem?_cons_succ] at b0 b1 b2 b3 b4
          have y0 := S5.out.z0.cell 0
          have y1 := S5.out.z0.cell 1
          have y2 := S5.out.z0.cell 2
          have y3 := S5.out.z0.cell 3
          have y4 := S5.out.z0.cell 4
          simp only [List.getElem?_toArray, List.getElem?_cons_zero, List.getElem?_cons_succ] at y0 y1 y2 y3 y4
          have yf0 := S5.out.z0.frozen 0
          have yf1 := S5.out.z0.frozen 1
          have yf2 := S5.out.z0.frozen 2
          have yf3 := S5.out.z0.frozen 3
          have yf4 := S5.out.z0.frozen 4
          have z0 := S5.out.z1.cell 0
          have z1 := S5.out.z1.cell 1
          have z2 := S5.out.z1.cell 2
          have z3 := S5.out.z1.cell 3
          have z4 := S5.out.z1.cell 4
          simp only [List.getElem?_toArray, List.getElem?_cons_zero, List.getElem?_cons_succ] at z0 z1 z2 z3 z4
          have zf0 := S5.out.z1.frozen 0
          have zf1 := S5.out.z1.frozen 1
          have zf2 := S5.out.z1.frozen 2
          have zf3 := S5.out.z1.frozen 3
          have zf4 := S5.out.z1.frozen 4
          have n1 : w.heap.size ≠ bb := by have := S5.out.o; omega
          have n2 : bb ≠ w.heap.size := by have := S5.out.o; omega
          have n3 : w.heap.size ≠ ba := by have := S5.out.o; omega
          have n4 : ba ≠ w.heap.size := by have := S5.out.o; omega
          have n5 : w.heap.size + 1 ≠ ba := by have := S5.out.o; omega
          have n6 : w.heap.size + 1 ≠ bb := by have := S5.out.o; omega
          have CS := Lib.hid (show S10 w8 ba bb m1 m4 from ⟨a0, a1, a2, a3, a4, b0, b1, b2, b3, b4⟩)
          clear a0 a1 a2 a3 a4 b0 b1 b2 b3 b4
          go_wp2_with fail
          go_region_held3 (fun wx => wx.cell? ⟨ba, 0, none⟩ = some (.int .i64 m1.f.x) ∧ wx.cell? ⟨ba, 1, none⟩ = some (.int .i64 m1.f.y) ∧ wx.cell? ⟨ba, 2, none⟩ = some (.int .i64 m1.t.x) ∧ wx.cell? ⟨ba, 3, none⟩ = some (.int .i64 m1.t.y) ∧ wx.cell? ⟨ba, 4, none⟩ = some (.int .i64 m1.c) ∧ wx.cell? ⟨bb, 0, none⟩ = some (.int .i64 m4.f.x) ∧ wx.cell? ⟨bb, 1, none⟩ = some (.int .i64 m4.f.y) ∧ wx.cell? ⟨bb, 2, none⟩ = some (.int .i64 m4.t.x) ∧ wx.cell? ⟨bb, 3, none⟩ = some (.int .i64 m4.t.y) ∧ wx.cell? ⟨bb, 4, none⟩ = some (.int .i64 m4.c))
            (repeat (first | with_reducible exact CS.out | with_reducible refine S10.drew ?_ | with_reducible refine S10.put n3 n1 ?_ | with_reducible refine S10.put n5 n6 ?_))
            (fail)
          rename_i hHeld
          clear hHeld CS
          obtain ⟨g1, g2, g3, g4⟩ := S5.out.fin (.int .i64 m1.f.x) (.int .i64 m1.f.y) (.int .i64 m1.t.x) (.int .i64 m1.t.y) (.int .i64 m1.c) (.int .i64 m4.f.x) (.int .i64 m4.f.y) (.int .i64 m4.t.x) (.int .i64 m4.t.y) (.int .i64 m4.c)
          clear S5 n1 n2 n3 n4 n5 n6 y0 y1 y2 y3 y4 yf0 yf1 yf2 yf3 yf4 z0 z1 z2 z3 z4 zf0 zf1 zf2 zf3 zf4
          dsimp only [st5] at g1 g2 g3 g4
          generalize ((((((((((w8.setCell ⟨w.heap.size, 0, none⟩ (.int .i64 m1.f.x)).setCell ⟨w.heap.size, 1, none⟩ (.int .i64 m1.f.y)).setCell ⟨w.heap.size, 2, none⟩ (.int .i64 m1.t.x)).setCell ⟨w.heap.size, 3, none⟩ (.int .i64 m1.t.y)).setCell ⟨w.heap.size, 4, none⟩ (.int .i64 m1.c)).setCell ⟨w.heap.size + 1, 0, none⟩ (.int .i64 m4.f.x)).setCell ⟨w.heap.size + 1, 1, none⟩ (.int .i64 m4.f.y)).setCell ⟨w.heap.size + 1, 2, none⟩ (.int .i64 m4.t.x)).setCell ⟨w.heap.size + 1, 3, none⟩ (.int .i64 m4.t.y)).setCell ⟨w.heap.size + 1, 4, none⟩ (.int .i64 m4.c)) = WF at g1 g2 g3 g4 ⊢
          have a0 := g1.cell 0
          have a1 := g1.cell 1
          have a2 := g1.cell 2
          have a3 := g1.cell 3
          have a4 := g1.cell 4
          simp only [List.getElem?_toArray, List.getElem?_cons_zero, List.getElem?_cons_succ] at a0 a1 a2 a3 a4
          have b0 := g2.cell 0
          have b1 := g2.cell 1
          have b2 := g2.cell 2
          have b3 := g2.cell 3
          have b4 := g2.cell 4
          simp only [List.getElem?_toArray, List.getElem?_cons_zero, List.getElem?_cons_succ] at b0 b1 b2 b3 b4
          go_wp2_with fail
          refine bodyPost_ret (v := .tuple #[.agg #[.int .i64 m1.f.x, .int .i64 m1.f.y, .int .i64 m1.t.x, .int .i64 m1.t.y, .int .i64 m1.c], .agg #[.int .i64 m4.f.x, .int .i64 m4.f.y, .int .i64 m4.t.x, .int .i64 m4.t.y, .int .i64 m4.c]]) (by simp [results, Tryz.results25, go_sem, a0, a1, a2, a3, a4, b0, b1, b2, b3, b4]) rfl ?_
          exact ⟨m1, m4, rfl, by unfold mvG at hm1; unfold smMv; omega, hm4, (g3.mono (by omega)), g4.drew⟩)
  have ne0 : ((r : Int) == 0) = false := beq_eq_false_iff_ne.2 e0
  by_cases e1 : r = 1
  · subst e1
    have a0 := S1.out.a.cell 0
    have a1 := S1.out.a.cell 1
    have a2 := S1.out.a.cell 2
    have a3 := S1.out.a.cell 3
    have a4 := S1.out.a.cell 4
    simp only [List.getElem?_toArray, List.getElem?_cons_zero, List.getElem?_cons_succ] at a0 a1 a2 a3 a4
    have b0 := S1.out.b.cell 0
    have b1 := S1.out.b.cell 1
    have b2 := S1.out.b.cell 2
    have b3 := S1.out.b.cell 3
    have b4 := S1.out.b.cell 4
    simp only [List.getElem?_toArray, List.getElem?_cons_zero, List.getElem?_cons_succ] at b0 b1 b2 b3 b4
    have bf0 := S1.out.b.frozen 0
    have bf1 := S1.out.b.frozen 1
    have bf2 := S1.out.b.frozen 2
    have bf3 := S1.out.b.frozen 3
    have bf4 := S1.out.b.frozen 4
    have S2 := Lib.hid (S1.out.puts5 (.int .i64 m1.f.x) (.int .i64 m1.f.y) (.int .i64 m1.t.x) (.int .i64 m1.t.y) (.int .i64 m1.c))
    go_upto_region 8 with (fail)
    clear a0 a1 a2 a3 a4 b0 bf0 b1 bf1 b2 bf2 b3 bf3 b4 bf4
    generalize (((((w3.setCell ⟨bb, 0, none⟩ (.int .i64 m1.f.x)).setCell ⟨bb, 1, none⟩ (.int .i64 m1.f.y)).setCell ⟨bb, 2, none⟩ (.int .i64 m1.t.x)).setCell ⟨bb, 3, none⟩ (.int .i64 m1.t.y)).setCell ⟨bb, 4, none⟩ (.int .i64 m1.c)) = w4 at *
    have d0 := S2.out.b.cell 1
    have f0 := S2.out.b.frozen 1
    simp only [List.getElem?_toArray, List.getElem?_cons_zero, List.getElem?_cons_succ] at d0
    have CJ := Lib.hid (fun (w' : World) (h : Cur w' g (k + 122)) => pick_any g (k + 122) 17 w' 16 h (by omega) (by omega) (by omega) (by omega))
    go_region_with (go_at_call 54; (first | (refine (CJ.out _ ?_).mono ?_) | fail); (exact curD S2.out.cur); rintro e w5 ⟨q, rfl, q0, q1, hc5, ho5⟩; have S3 := S2.out.drew.call ho5 hc5; have e0 := S3.b.cell 1; have e1 := S3.b.frozen 1; (try simp at e0))
    all_goals
      have hw2 : IntKind.i64.wrap (m1.f.y + q) = m1.f.y + q := IntWalk.i64_in _ (by have := hm1.2.1; omega)
      rw [hw2]
      have S6 := Lib.hid (show TgS w (w5.setCell ⟨bb, 1, none⟩ (.int .i64 (m1.f.y + q))) g (k + 124) w.heap.size ba bb #[.int .i64 m1.f.x, .int .i64 m1.f.y, .int .i64 m1.t.x, .int .i64 m1.t.y, .int .i64 m1.c] #[.int .i64 m1.f.x, .int .i64 (m1.f.y + q), .int .i64 m1.t.x, .int .i64 m1.t.y, .int .i64 m1.c] by simpa using S3.put 1 (.int .i64 (m1.f.y + q)))
      generalize (w5.setCell ⟨bb, 1, none⟩ (.int .i64 (m1.f.y + q))) = w6 at S6 ⊢
      clear hw2 e0 e1 d0 f0 S1 S2 S3 ho5 hc5 CJ
      have d0 := S6.out.b.cell 3
      have f0 := S6.out.b.frozen 3
      simp only [List.getElem?_toArray, List.getElem?_cons_zero, List.getElem?_cons_succ] at d0
      have CJ := Lib.hid (fun (w' : World) (h : Cur w' g (k + 124)) => pick_any g (k + 124) 17 w' 16 h (by omega) (by omega) (by omega) (by omega))
      go_wp2_with fail
      go_region_with (go_at_call 54; (first | (refine (CJ.out _ ?_).mono ?_) | fail); (exact curD S6.out.cur); rintro e w5 ⟨q', rfl, q0', q1', hc5, ho5⟩; have S3 := S6.out.drew.call ho5 hc5; have e0 := S3.b.cell 3; have e1 := S3.b.frozen 3; (try simp at e0))
      all_goals
        have hw2 : IntKind.i64.wrap (m1.t.y + q') = m1.t.y + q' := IntWalk.i64_in _ (by have := hm1.2.2.2.1; omega)
        rw [hw2]
        obtain ⟨m3, hm3, S3⟩ : ∃ m3 : Mv, smMv m3 ∧ Hid (TgS w (w5.setCell ⟨bb, 3, none⟩ (.int .i64 (m1.t.y + q'))) g (k + 126) w.heap.size ba bb #[.int .i64 m1.f.x, .int .i64 m1.f.y, .int .i64 m1.t.x, .int .i64 m1.t.y, .int .i64 m1.c] #[.int .i64 m3.f.x, .int .i64 m3.f.y, .int .i64 m3.t.x, .int .i64 m3.t.y, .int .i64 m3.c]) :=
          ⟨⟨⟨m1.f.x, m1.f.y + q⟩, ⟨m1.t.x, m1.t.y + q'⟩, m1.c⟩, by have := hm1; unfold mvG at this; unfold smMv; dsimp only; omega, Lib.hid (by simpa using S3.put 3 (.int .i64 (m1.t.y + q')))⟩
        generalize (w5.setCell ⟨bb, 3, none⟩ (.int .i64 (m1.t.y + q'))) = w8_ at S3 ⊢
        clear hw2 e0 e1 d0 f0 S6 ho5 hc5 CJ
        (
          go_wp2_with fail
          refine (one_any g (k + 126) 12 _ S3.out.cur (by omega) (by omega)).mono ?_
          rintro e w7 ⟨b_, rfl, hc7, ho7⟩
          have S4 := Lib.hid (S3.out.call ho7 (hc7.mono (k' := k + 150) (by omega)))
          clear S3 ho7 hc7
          go_upto_if 49 with (fail)
          go_cut [] from 6 to 52 (fun wx => ∃ m4 : Mv, smMv m4 ∧ Hid (TgS w wx g (k + 150) w.heap.size ba bb #[.int .i64 m1.f.x, .int .i64 m1.f.y, .int .i64 m1.t.x, .int .i64 m1.t.y, .int .i64 m1.c] #[.int .i64 m4.f.x, .int .i64 m4.f.y, .int .i64 m4.t.x, .int .i64 m4.t.y, .int .i64 m4.c]))
          case first =>
            cases b_
            · have ac := S4.out.a.cell 4
              have bc := S4.out.b.cell 4
              simp only [List.getElem?_toArray, List.getElem?_cons_zero, List.getElem?_cons_succ] at ac bc
              have bf := S4.out.b.frozen 4
              have S5 := Lib.hid (S4.out.put 4 (.int .i64 m1.c))
              go_wp2_with fail
              go_meet
              exact ⟨⟨m3.f, m3.t, m1.c⟩, by have := hm1; have := hm3; unfold mvG smMv at *; dsimp only; omega, Lib.hid (by simpa using S5.out)⟩
            · go_wp2_with fail
              go_meet
              exact ⟨m3, hm3, S4⟩
          case rest =>
            obtain ⟨m4, hm4, S5⟩ := hcut
            clear S4
            generalize wc = w8 at S5 ⊢
            have a0 := S5.out.a.cell 0
            have a1 := S5.out.a.cell 1
            have a2 := S5.out.a.cell 2
            have a3 := S5.out.a.cell 3
            have a4 := S5.out.a.cell 4
            simp only [List.getElem?_toArray, List.getElem?_cons_zero, List.getElem?_cons_succ] at a0 a1 a2 a3 a4
            have b0 := S5.out.b.cell 0
            have b1 := S5.out.b.cell 1
            have b2 := S5.out.b.cell 2
            have b3 := S5.out.b.cell 3
            have b4 := S5.out.b.cell 4
            simp only [List.getElem?_toArray, List.getElem?_cons_zero, List.getElem?_cons_succ] at b0 b1 b2 b3 b4
            have y0 := S5.out.z0.cell 0
            have y1 := S5.out.z0.cell 1
            have y2 := S5.out.z0.cell 2
            have y3 := S5.out.z0.cell 3
            have y4 := S5.out.z0.cell 4
            simp only [List.getElem?_toArray, List.getElem?_cons_zero, List.getElem?_cons_succ] at y0 y1 y2 y3 y4
            have yf0 := S5.out.z0.frozen 0
            have yf1 := S5.out.z0.frozen 1
            have yf2 := S5.out.z0.frozen 2
            have yf3 := S5.out.z0.frozen 3
            have yf4 := S5.out.z0.frozen 4
            have z0 := S5.out.z1.cell 0
            have z1 := S5.out.z1.cell 1
            have z2 := S5.out.z1.cell 2
            have z3 := S5.out.z1.cell 3
            have z4 := S5.out.z1.cell 4
            simp only [List.getElem?_toArray, List.getElem?_cons_zero, List.getElem?_cons_succ] at z0 z1 z2 z3 z4
            have zf0 := S5.out.z1.frozen 0
            have zf1 := S5.out.z1.frozen 1
            have zf2 := S5.out.z1.frozen 2
            have zf3 := S5.out.z1.frozen 3
            have zf4 := S5.out.z1.frozen 4
            have n1 : w.heap.size ≠ bb := by have := S5.out.o; omega
            have n2 : bb ≠ w.heap.size := by have := S5.out.o; omega
            have n3 : w.heap.size ≠ ba := by have := S5.out.o; omega
            have n4 : ba ≠ w.heap.size := by have := S5.out.o; omega
            have n5 : w.heap.size + 1 ≠ ba := by have := S5.out.o; omega
            have n6 : w.heap.size + 1 ≠ bb := by have := S5.out.o; omega
            have CS := Lib.hid (show S10 w8 ba bb m1 m4 from ⟨a0, a1, a2, a3, a4, b0, b1, b2, b3, b4⟩)
            clear a0 a1 a2 a3 a4 b0 b1 b2 b3 b4
            go_wp2_with fail
            go_region_held3 (fun wx => wx.cell? ⟨ba, 0, none⟩ = some (.int .i64 m1.f.x) ∧ wx.cell? ⟨ba, 1, none⟩ = some (.int .i64 m1.f.y) ∧ wx.cell? ⟨ba, 2, none⟩ = some (.int .i64 m1.t.x) ∧ wx.cell? ⟨ba, 3, none⟩ = some (.int .i64 m1.t.y) ∧ wx.cell? ⟨ba, 4, none⟩ = some (.int .i64 m1.c) ∧ wx.cell? ⟨bb, 0, none⟩ = some (.int .i64 m4.f.x) ∧ wx.cell? ⟨bb, 1, none⟩ = some (.int .i64 m4.f.y) ∧ wx.cell? ⟨bb, 2, none⟩ = some (.int .i64 m4.t.x) ∧ wx.cell? ⟨bb, 3, none⟩ = some (.int .i64 m4.t.y) ∧ wx.cell? ⟨bb, 4, none⟩ = some (.int .i64 m4.c))
              (repeat (first | with_reducible exact CS.out | with_reducible refine S10.drew ?_ | with_reducible refine S10.put n3 n1 ?_ | with_reducible refine S10.put n5 n6 ?_))
              (fail)
            rename_i hHeld
            clear hHeld CS
            obtain ⟨g1, g2, g3, g4⟩ := S5.out.fin (.int .i64 m1.f.x) (.int .i64 m1.f.y) (.int .i64 m1.t.x) (.int .i64 m1.t.y) (.int .i64 m1.c) (.int .i64 m4.f.x) (.int .i64 m4.f.y) (.int .i64 m4.t.x) (.int .i64 m4.t.y) (.int .i64 m4.c)
            clear S5 n1 n2 n3 n4 n5 n6 y0 y1 y2 y3 y4 yf0 yf1 yf2 yf3 yf4 z0 z1 z2 z3 z4 zf0 zf1 zf2 zf3 zf4
            dsimp only [st5] at g1 g2 g3 g4
            generalize ((((((((((w8.setCell ⟨w.heap.size, 0, none⟩ (.int .i64 m1.f.x)).setCell ⟨w.heap.size, 1, none⟩ (.int .i64 m1.f.y)).setCell ⟨w.heap.size, 2, none⟩ (.int .i64 m1.t.x)).setCell ⟨w.heap.size, 3, none⟩ (.int .i64 m1.t.y)).setCell ⟨w.heap.size, 4, none⟩ (.int .i64 m1.c)).setCell ⟨w.heap.size + 1, 0, none⟩ (.int .i64 m4.f.x)).setCell ⟨w.heap.size + 1, 1, none⟩ (.int .i64 m4.f.y)).setCell ⟨w.heap.size + 1, 2, none⟩ (.int .i64 m4.t.x)).setCell ⟨w.heap.size + 1, 3, none⟩ (.int .i64 m4.t.y)).setCell ⟨w.heap.size + 1, 4, none⟩ (.int .i64 m4.c)) = WF at g1 g2 g3 g4 ⊢
            have a0 := g1.cell 0
            have a1 := g1.cell 1
            have a2 := g1.cell 2
            have a3 := g1.cell 3
            have a4 := g1.cell 4
            simp only [List.getElem?_toArray, List.getElem?_cons_zero, List.getElem?_cons_succ] at a0 a1 a2 a3 a4
            have b0 := g2.cell 0
            have b1 := g2.cell 1
            have b2 := g2.cell 2
            have b3 := g2.cell 3
            have b4 := g2.cell 4
            simp only [List.getElem?_toArray, List.getElem?_cons_zero, List.getElem?_cons_succ] at b0 b1 b2 b3 b4
            go_wp2_with fail
            refine bodyPost_ret (v := .tuple #[.agg #[.int .i64 m1.f.x, .int .i64 m1.f.y, .int .i64 m1.t.x, .int .i64 m1.t.y, .int .i64 m1.c], .agg #[.int .i64 m4.f.x, .int .i64 m4.f.y, .int .i64 m4.t.x, .int .i64 m4.t.y, .int .i64 m4.c]]) (by simp [results, Tryz.results25, go_sem, a0, a1, a2, a3, a4, b0, b1, b2, b3, b4]) rfl ?_
            exact ⟨m1, m4, rfl, by unfold mvG at hm1; unfold smMv; omega, hm4, (g3.mono (by omega)), g4.drew⟩)
  have ne1 : ((r : Int) == 1) = false := beq_eq_false_iff_ne.2 e1
  obtain ⟨m3, hm3, S3⟩ : ∃ m3 : Mv, smMv m3 ∧ Hid (TgS w w3 g (k + 122) w.heap.size ba bb #[.int .i64 m1.f.x, .int .i64 m1.f.y, .int .i64 m1.t.x, .int .i64 m1.t.y, .int .i64 m1.c] #[.int .i64 m3.f.x, .int .i64 m3.f.y, .int .i64 m3.t.x, .int .i64 m3.t.y, .int .i64 m3.c]) := ⟨m2, by unfold mvG at hm2; unfold smMv; omega, S1⟩
  clear S1
  go_wp2_with fail
  refine (one_any g (k + 122) 12 _ S3.out.cur (by omega) (by omega)).mono ?_
  rintro e w7 ⟨b_, rfl, hc7, ho7⟩
  have S4 := Lib.hid (S3.out.call ho7 (hc7.mono (k' := k + 150) (by omega)))
  clear S3 ho7 hc7
  go_upto_if 49 with (fail)
  go_cut [] from 6 to 52 (fun wx => ∃ m4 : Mv, smMv m4 ∧ Hid (TgS w wx g (k + 150) w.heap.size ba bb #[.int .i64 m1.f.x, .int .i64 m1.f.y, .int .i64 m1.t.x, .int .i64 m1.t.y, .int .i64 m1.c] #[.int .i64 m4.f.x, .int .i64 m4.f.y, .int .i64 m4.t.x, .int .i64 m4.t.y, .int .i64 m4.c]))
  case first =>
    cases b_
    · have ac := S4.out.a.cell 4
      have bc := S4.out.b.cell 4
      simp only [List.getElem?_toArray, List.getElem?_cons_zero, List.getElem?_cons_succ] at ac bc
      have bf := S4.out.b.frozen 4
      have S5 := Lib.hid (S4.out.put 4 (.int .i64 m1.c))
      go_wp2_with fail
      go_meet
      exact ⟨⟨m3.f, m3.t, m1.c⟩, by have := hm1; have := hm3; unfold mvG smMv at *; dsimp only; omega, Lib.hid (by simpa using S5.out)⟩
    · go_wp2_with fail
      go_meet
      exact ⟨m3, hm3, S4⟩
  case rest =>
    obtain ⟨m4, hm4, S5⟩ := hcut
    clear S4
    generalize wc = w8 at S5 ⊢
    have a0 := S5.out.a.cell 0
    have a1 := S5.out.a.cell 1
    have a2 := S5.out.a.cell 2
    have a3 := S5.out.a.cell 3
    have a4 := S5.out.a.cell 4
    simp only [List.getElem?_toArray, List.getElem?_cons_zero, List.getElem?_cons_succ] at a0 a1 a2 a3 a4
    have b0 := S5.out.b.cell 0
    have b1 := S5.out.b.cell 1
    have b2 := S5.out.b.cell 2
    have b3 := S5.out.b.cell 3
    have b4 := S5.out.b.cell 4
    simp only [List.getElem?_toArray, List.getElem?_cons_zero, List.getElem?_cons_succ] at b0 b1 b2 b3 b4
    have y0 := S5.out.z0.cell 0
    have y1 := S5.out.z0.cell 1
    have y2 := S5.out.z0.cell 2
    have y3 := S5.out.z0.cell 3
    have y4 := S5.out.z0.cell 4
    simp only [List.getElem?_toArray, List.getElem?_cons_zero, List.getElem?_cons_succ] at y0 y1 y2 y3 y4
    have yf0 := S5.out.z0.frozen 0
    have yf1 := S5.out.z0.frozen 1
    have yf2 := S5.out.z0.frozen 2
    have yf3 := S5.out.z0.frozen 3
    have yf4 := S5.out.z0.frozen 4
    have z0 := S5.out.z1.cell 0
    have z1 := S5.out.z1.cell 1
    have z2 := S5.out.z1.cell 2
    have z3 := S5.out.z1.cell 3
    have z4 := S5.out.z1.cell 4
    simp only [List.getElem?_toArray, List.getElem?_cons_zero, List.getElem?_cons_succ] at z0 z1 z2 z3 z4
    have zf0 := S5.out.z1.frozen 0
    have zf1 := S5.out.z1.frozen 1
    have zf2 := S5.out.z1.frozen 2
    have zf3 := S5.out.z1.frozen 3
    have zf4 := S5.out.z1.frozen 4
    have n1 : w.heap.size ≠ bb := by have := S5.out.o; omega
    have n2 : bb ≠ w.heap.size := by have := S5.out.o; omega
    have n3 : w.heap.size ≠ ba := by have := S5.out.o; omega
    have n4 : ba ≠ w.heap.size := by have := S5.out.o; omega
    have n5 : w.heap.size + 1 ≠ ba := by have := S5.out.o; omega
    have n6 : w.heap.size + 1 ≠ bb := by have := S5.out.o; omega
    have CS := Lib.hid (show S10 w8 ba bb m1 m4 from ⟨a0, a1, a2, a3, a4, b0, b1, b2, b3, b4⟩)
    clear a0 a1 a2 a3 a4 b0 b1 b2 b3 b4
    go_wp2_with fail
    go_region_held3 (fun wx => wx.cell? ⟨ba, 0, none⟩ = some (.int .i64 m1.f.x) ∧ wx.cell? ⟨ba, 1, none⟩ = some (.int .i64 m1.f.y) ∧ wx.cell? ⟨ba, 2, none⟩ = some (.int .i64 m1.t.x) ∧ wx.cell? ⟨ba, 3, none⟩ = some (.int .i64 m1.t.y) ∧ wx.cell? ⟨ba, 4, none⟩ = some (.int .i64 m1.c) ∧ wx.cell? ⟨bb, 0, none⟩ = some (.int .i64 m4.f.x) ∧ wx.cell? ⟨bb, 1, none⟩ = some (.int .i64 m4.f.y) ∧ wx.cell? ⟨bb, 2, none⟩ = some (.int .i64 m4.t.x) ∧ wx.cell? ⟨bb, 3, none⟩ = some (.int .i64 m4.t.y) ∧ wx.cell? ⟨bb, 4, none⟩ = some (.int .i64 m4.c))
      (repeat (first | with_reducible exact CS.out | with_reducible refine S10.drew ?_ | with_reducible refine S10.put n3 n1 ?_ | with_reducible refine S10.put n5 n6 ?_))
      (fail)
    rename_i hHeld
    clear hHeld CS
    obtain ⟨g1, g2, g3, g4⟩ := S5.out.fin (.int .i64 m1.f.x) (.int .i64 m1.f.y) (.int .i64 m1.t.x) (.int .i64 m1.t.y) (.int .i64 m1.c) (.int .i64 m4.f.x) (.int .i64 m4.f.y) (.int .i64 m4.t.x) (.int .i64 m4.t.y) (.int .i64 m4.c)
    clear S5 n1 n2 n3 n4 n5 n6 y0 y1 y2 y3 y4 yf0 yf1 yf2 yf3 yf4 z0 z1 z2 z3 z4 zf0 zf1 zf2 zf3 zf4
    dsimp only [st5] at g1 g2 g3 g4
    generalize ((((((((((w8.setCell ⟨w.heap.size, 0, none⟩ (.int .i64 m1.f.x)).setCell ⟨w.heap.size, 1, none⟩ (.int .i64 m1.f.y)).setCell ⟨w.heap.size, 2, none⟩ (.int .i64 m1.t.x)).setCell ⟨w.heap.size, 3, none⟩ (.int .i64 m1.t.y)).setCell ⟨w.heap.size, 4, none⟩ (.int .i64 m1.c)).setCell ⟨w.heap.size + 1, 0, none⟩ (.int .i64 m4.f.x)).setCell ⟨w.heap.size + 1, 1, none⟩ (.int .i64 m4.f.y)).setCell ⟨w.heap.size + 1, 2, none⟩ (.int .i64 m4.t.x)).setCell ⟨w.heap.size + 1, 3, none⟩ (.int .i64 m4.t.y)).setCell ⟨w.heap.size + 1, 4, none⟩ (.int .i64 m4.c)) = WF at g1 g2 g3 g4 ⊢
    have a0 := g1.cell 0
    have a1 := g1.cell 1
    have a2 := g1.cell 2
    have a3 := g1.cell 3
    have a4 := g1.cell 4
    simp only [List.getElem?_toArray, List.getElem?_cons_zero, List.getElem?_cons_succ] at a0 a1 a2 a3 a4
    have b0 := g2.cell 0
    have b1 := g2.cell 1
    have b2 := g2.cell 2
    have b3 := g2.cell 3
    have b4 := g2.cell 4
    simp only [List.getElem?_toArray, List.getElem?_cons_zero, List.getElem?_cons_succ] at b0 b1 b2 b3 b4
    go_wp2_with fail
    refine bodyPost_ret (v := .tuple #[.agg #[.int .i64 m1.f.x, .int .i64 m1.f.y, .int .i64 m1.t.x, .int .i64 m1.t.y, .int .i64 m1.c], .agg #[.int .i64 m4.f.x, .int .i64 m4.f.y, .int .i64 m4.t.x, .int .i64 m4.t.y, .int .i64 m4.c]]) (by simp [results, Tryz.results25, go_sem, a0, a1, a2, a3, a4, b0, b1, b2, b3, b4]) rfl ?_
    exact ⟨m1, m4, rfl, by unfold mvG at hm1; unfold smMv; omega, hm4, (g3.mono (by omega)), g4.drew⟩

end Go.Proofs.YthehcjfljjfnmaaGreat
