/-
  Draws: what LeastDelayed is asked.
-/
import Derived.Test.YthehcjfljjfnmaaGreatDmx
namespace Go.Proofs.YthehcjfljjfnmaaGreat
open Go.RowKit

/-- The boxes of two moves, and the results', ahead of the cursor. -/
structure TgD (w wx : World) (K ba bb : Nat) (c1 c2 : Array Value) : Prop where
  a : Blk wx ba c1 26
  b : Blk wx bb c2 26
  z0 : Blk wx w.heap.size #[.int .i64 0, .int .i64 0, .int .i64 0, .int .i64 0, .int .i64 0] 26
  z1 : Blk wx (w.heap.size + 1) #[.int .i64 0, .int .i64 0, .int .i64 0, .int .i64 0, .int .i64 0] 26
  cur : Cur wx (w.heap.size + 1 + 1) K
  bel : Below w.heap.size w wx
  o : w.heap.size + 1 + 1 < ba ∧ ba < bb
theorem TgD.call {w wx w' : World} {K K' ba bb : Nat} {c1 c2 : Array Value} (h : TgD w wx K ba bb c1 c2) (ho : Oth (w.heap.size + 1 + 1) wx w') (hc : Cur w' (w.heap.size + 1 + 1) K') : TgD w w' K' ba bb c1 c2 := by
  obtain ⟨o1, o2⟩ := h.o
  have hg := h.cur.lt
  exact ⟨ho.blk h.a (by omega), ho.blk h.b (by omega), ho.blk h.z0 (by omega), ho.blk h.z1 (by omega), hc, h.bel.trans (ho.below (B := w.heap.size) (by omega) (by omega)), h.o⟩
theorem TgD.putB {w wx : World} {K ba bb : Nat} {c1 c2 : Array Value} (h : TgD w wx K ba bb c1 c2) (j : Nat) (v : Value) : TgD w (wx.setCell ⟨bb, j, none⟩ v) K ba bb c1 (c2.setIfInBounds j v) := by
  obtain ⟨o1, o2⟩ := h.o
  exact ⟨h.a.other (by omega) v, h.b.set j v, h.z0.other (by omega) v, h.z1.other (by omega) v, h.cur.put1 (by show w.heap.size + 1 + 1 < bb; omega), h.bel.setCell (by show w.heap.size ≤ bb; omega) v, h.o⟩
theorem TgD.putA {w wx : World} {K ba bb : Nat} {c1 c2 : Array Value} (h : TgD w wx K ba bb c1 c2) (j : Nat) (v : Value) : TgD w (wx.setCell ⟨ba, j, none⟩ v) K ba bb (c1.setIfInBounds j v) c2 := by
  obtain ⟨o1, o2⟩ := h.o
  exact ⟨h.a.set j v, h.b.other (by omega) v, h.z0.other (by omega) v, h.z1.other (by omega) v, h.cur.put1 (by show w.heap.size + 1 + 1 < ba; omega), h.bel.setCell (by show w.heap.size ≤ ba; omega) v, h.o⟩
theorem TgD.drew {w wx : World} {K ba bb : Nat} {c1 c2 : Array Value} (h : TgD w wx K ba bb c1 c2) : TgD w wx.drew K ba bb c1 c2 := ⟨h.a, h.b, h.z0, h.z1, h.cur, h.bel.drew, h.o⟩
theorem TgD.alloc {w wx : World} {K ba bb : Nat} {c1 c2 : Array Value} (h : TgD w wx K ba bb c1 c2) (o : Obj) : TgD w (wx.alloc o) K ba bb c1 c2 :=
  ⟨h.a.alloc _, h.b.alloc _, h.z0.alloc _, h.z1.alloc _, h.cur.alloc _, h.bel.trans ((below_alloc wx o).mono h.bel.size), h.o⟩
theorem TgD.mono {w wx : World} {K K' ba bb : Nat} {c1 c2 : Array Value} (h : TgD w wx K ba bb c1 c2) (hk : K ≤ K') : TgD w wx K' ba bb c1 c2 := ⟨h.a, h.b, h.z0, h.z1, h.cur.mono hk, h.bel, h.o⟩
theorem TgD.fin {w wx : World} {K ba bb : Nat} {c1 c2 : Array Value} (h : TgD w wx K ba bb c1 c2) (v0 v1 v2 v3 v4 u0 u1 u2 u3 u4 : Value) :
    Blk (st5 (st5 wx w.heap.size v0 v1 v2 v3 v4) (w.heap.size + 1) u0 u1 u2 u3 u4) w.heap.size #[v0, v1, v2, v3, v4] 26 ∧ Blk (st5 (st5 wx w.heap.size v0 v1 v2 v3 v4) (w.heap.size + 1) u0 u1 u2 u3 u4) (w.heap.size + 1) #[u0, u1, u2, u3, u4] 26 ∧ Below w.heap.size w (st5 (st5 wx w.heap.size v0 v1 v2 v3 v4) (w.heap.size + 1) u0 u1 u2 u3 u4) := by
  have n1 : w.heap.size ≠ w.heap.size + 1 := by omega
  have n2 : w.heap.size + 1 ≠ w.heap.size := by omega
  refine ⟨?_, ?_, ?_⟩
  · exact (((((put5 h.z0 v0 v1 v2 v3 v4).other n1 u0).other n1 u1).other n1 u2).other n1 u3).other n1 u4
  · exact put5 (((((h.z1.other n2 v0).other n2 v1).other n2 v2).other n2 v3).other n2 v4) u0 u1 u2 u3 u4
  · have o2 := Nat.le_refl w.heap.size
    have a := ((((h.bel.setCell (p := ⟨w.heap.size, 0, none⟩) o2 v0).setCell (p := ⟨w.heap.size, 1, none⟩) o2 v1).setCell (p := ⟨w.heap.size, 2, none⟩) o2 v2).setCell (p := ⟨w.heap.size, 3, none⟩) o2 v3).setCell (p := ⟨w.heap.size, 4, none⟩) o2 v4
    have o2' : w.heap.size ≤ w.heap.size + 1 := by omega
    exact ((((a.setCell (p := ⟨w.heap.size + 1, 0, none⟩) o2' u0).setCell (p := ⟨w.heap.size + 1, 1, none⟩) o2' u1).setCell (p := ⟨w.heap.size + 1, 2, none⟩) o2' u2).setCell (p := ⟨w.heap.size + 1, 3, none⟩) o2' u3).setCell (p := ⟨w.heap.size + 1, 4, none⟩) o2' u4
theorem S10.alloc {w : World} {ba bb : Nat} {m n : Mv} {o : Obj} (h : S10 w ba bb m n) : S10 (w.alloc o) ba bb m n := by
  obtain ⟨a0, a1, a2, a3, a4, b0, b1, b2, b3, b4⟩ := h
  have hb := below_alloc w o
  exact ⟨keep1 hb a0, keep1 hb a1, keep1 hb a2, keep1 hb a3, keep1 hb a4, keep1 hb b0, keep1 hb b1, keep1 hb b2, keep1 hb b3, keep1 hb b4⟩
theorem TgD.s10 {w wx : World} {K ba bb : Nat} {m n : Mv} (h : TgD w wx K ba bb #[.int .i64 m.f.x, .int .i64 m.f.y, .int .i64 m.t.x, .int .i64 m.t.y, .int .i64 m.c] #[.int .i64 n.f.x, .int .i64 n.f.y, .int .i64 n.t.x, .int .i64 n.t.y, .int .i64 n.c]) : S10 wx ba bb m n :=
  ⟨h.a.cell 0, h.a.cell 1, h.a.cell 2, h.a.cell 3, h.a.cell 4, h.b.cell 0, h.b.cell 1, h.b.cell 2, h.b.cell 3, h.b.cell 4⟩
/-- What LeastDelayed is asked. -/
def DrLd (w : World) (e : Ending) (w' : World) : Prop :=
  ∃ (m n : Mv) (d q : Int), e = .returned (.tuple #[.agg #[.int .i64 m.f.x, .int .i64 m.f.y, .int .i64 m.t.x, .int .i64 m.t.y, .int .i64 m.c], .agg #[.int .i64 n.f.x, .int .i64 n.f.y, .int .i64 n.t.x, .int .i64 n.t.y, .int .i64 n.c], .int .i64 d, .int .i64 q]) ∧ smMv m ∧ smMv n ∧ (-1 ≤ d ∧ d ≤ 5) ∧ (-1 ≤ q ∧ q ≤ 5) ∧ Below w.heap.size w w'

set_option maxHeartbeats 12800000 in
set_option maxRecDepth 100000 in
theorem drawLeastDelayed_any (A : Option Addr) (c : Nat) (C : List Int) (w : World) (h : code w A C) : Calls Tryz.prog 4 #[.slice A C.length c] w (DrLd w) := by
  have hz1 : (w.alloc (.cells #[.int .i64 0, .int .i64 0, .int .i64 0, .int .i64 0, .int .i64 0] 26)).heap.size = w.heap.size + 1 := by simp
  have hz2 : ((w.alloc (.cells #[.int .i64 0, .int .i64 0, .int .i64 0, .int .i64 0, .int .i64 0] 26)).alloc (.cells #[.int .i64 0, .int .i64 0, .int .i64 0, .int .i64 0, .int .i64 0] 26)).heap.size = w.heap.size + 1 + 1 := by simp
  have HC := code.cur (c := c) ((h.below (below_alloc w (.cells #[.int .i64 0, .int .i64 0, .int .i64 0, .int .i64 0, .int .i64 0] 26))).below (below_alloc _ (.cells #[.int .i64 0, .int .i64 0, .int .i64 0, .int .i64 0, .int .i64 0] 26)))
  rw [hz2] at HC
  have HZ0 := Lib.hid (((Blk.new w #[.int .i64 0, .int .i64 0, .int .i64 0, .int .i64 0, .int .i64 0] 26).alloc (.cells #[.int .i64 0, .int .i64 0, .int .i64 0, .int .i64 0, .int .i64 0] 26)).alloc (.cells #[.slice A C.length c, .int .i64 0, .int .u64 0] 57))
  have HZ1 := Lib.hid ((blkN (w := w.alloc (.cells #[.int .i64 0, .int .i64 0, .int .i64 0, .int .i64 0, .int .i64 0] 26)) (cs := #[.int .i64 0, .int .i64 0, .int .i64 0, .int .i64 0, .int .i64 0]) (t := 26) hz1.symm).alloc (.cells #[.slice A C.length c, .int .i64 0, .int .u64 0] 57))
  have HB := Lib.hid (((below_alloc w (.cells #[.int .i64 0, .int .i64 0, .int .i64 0, .int .i64 0, .int .i64 0] 26)).trans ((below_alloc _ (.cells #[.int .i64 0, .int .i64 0, .int .i64 0, .int .i64 0, .int .i64 0] 26)).mono (by simp))).trans ((below_alloc _ (.cells #[.slice A C.length c, .int .i64 0, .int .u64 0] 57)).mono (by simp; omega)))
  have HC := Lib.hid HC
  clear h hz1 hz2
  go_enter Tryz.func4, Tryz.ntmps4
  go_wp2_with fail
  generalize ((w.alloc (.cells #[.int .i64 0, .int .i64 0, .int .i64 0, .int .i64 0, .int .i64 0] 26)).alloc (.cells #[.int .i64 0, .int .i64 0, .int .i64 0, .int .i64 0, .int .i64 0] 26)).alloc (.cells #[.slice A C.length c, .int .i64 0, .int .u64 0] 57) = W0 at *
  have hlt := HC.out.lt
  refine (together_any (w.heap.size + 1 + 1) 0 _ HC.out (by omega)).mono ?_
  rintro e w1 ⟨m1, m2, rfl, hm1, hm2, hc1, ho1⟩
  have hl1 := hc1.lt
  have Z0 := Lib.hid (ho1.blk HZ0.out (by omega))
  have Z1 := Lib.hid (ho1.blk HZ1.out (by omega))
  have B1 := Lib.hid (HB.out.trans (ho1.below (B := w.heap.size) (by omega) (by omega)))
  clear ho1 HZ0 HZ1 HB HC
  have S0 := Lib.hid (show TgD w ((w1.alloc (.cells #[.int .i64 m1.f.x, .int .i64 m1.f.y, .int .i64 m1.t.x, .int .i64 m1.t.y, .int .i64 m1.c] 26)).alloc (.cells #[.int .i64 m2.f.x, .int .i64 m2.f.y, .int .i64 m2.t.x, .int .i64 m2.t.y, .int .i64 m2.c] 26)) 200 w1.heap.size (w1.heap.size + 1) #[.int .i64 m1.f.x, .int .i64 m1.f.y, .int .i64 m1.t.x, .int .i64 m1.t.y, .int .i64 m1.c] #[.int .i64 m2.f.x, .int .i64 m2.f.y, .int .i64 m2.t.x, .int .i64 m2.t.y, .int .i64 m2.c] from
    ⟨(Blk.new _ _ _).alloc _, blkN (by simp), (Z0.out.alloc _).alloc _, (Z1.out.alloc _).alloc _, ((hc1.mono (by omega)).alloc _).alloc _, (B1.out.trans ((below_alloc _ _).mono (by omega))).trans ((below_alloc _ _).mono (by simp; omega)), ⟨hl1, by omega⟩⟩)
  have hq := hm1.2.2.2.2
  by_cases h16 : (16 : Int) < m1.c
  · have hd : decide ((16 : Int) < m1.c) = true := decide_eq_true h16
    go_wp2_with fail
    obtain ⟨ba, hba⟩ : ∃ b, w1.heap.size = b := ⟨_, rfl⟩
    obtain ⟨bb, hbb⟩ : ∃ b, ba + 1 = b := ⟨_, rfl⟩
    rw [hba, hbb] at S0
    rw [hba, hbb]
    generalize ((w1.alloc (.cells #[.int .i64 m1.f.x, .int .i64 m1.f.y, .int .i64 m1.t.x, .int .i64 m1.t.y, .int .i64 m1.c] 26)).alloc (.cells #[.int .i64 m2.f.x, .int .i64 m2.f.y, .int .i64 m2.t.x, .int .i64 m2.t.y, .int .i64 m2.c] 26)) = W2 at S0 ⊢
    clear B1 Z0 Z1 hc1 hl1 hba hbb
    refine (one_any (w.heap.size + 1 + 1) 200 16 _ S0.out.cur (by omega) (by omega)).mono ?_
    rintro e w3 ⟨b3, rfl, hc3, ho3⟩
    have S3 := Lib.hid (S0.out.call ho3 hc3)
    clear ho3 hc3 S0
    go_upto_if 24 with (fail)
    go_cut [] from 9 to 25 (fun wx => ∃ m3 : Mv, smMv m3 ∧ Hid (TgD w wx 202 ba bb #[.int .i64 m3.f.x, .int .i64 m3.f.y, .int .i64 m3.t.x, .int .i64 m3.t.y, .int .i64 m3.c] #[.int .i64 m2.f.x, .int .i64 m2.f.y, .int .i64 m2.t.x, .int .i64 m2.t.y, .int .i64 m2.c]))
    case first =>
      cases b3
      · have ac := S3.out.a.cell 4
        simp only [List.getElem?_toArray, List.getElem?_cons_zero, List.getElem?_cons_succ] at ac
        have af := S3.out.a.frozen 4
        have S4 := Lib.hid (S3.out.putA 4 (.int .i64 8))
        go_wp2_with fail
        go_meet
        exact ⟨⟨m1.f, m1.t, 8⟩, by have := hm1; unfold smMv at *; dsimp only; omega, Lib.hid (by simpa using S4.out)⟩
      · go_wp2_with fail
        go_meet
        exact ⟨m1, hm1, S3⟩
    case rest =>
      obtain ⟨m3, hm3, S4⟩ := hcut
      clear S3 hd
      generalize wc = w4 at S4 ⊢
      go_wp2_with fail
      refine (one_any (w.heap.size + 1 + 1) 202 16 _ S4.out.cur (by omega) (by omega)).mono ?_
      rintro e w5 ⟨b5, rfl, hc5, ho5⟩
      have S5 := Lib.hid (S4.out.call ho5 hc5)
      clear ho5 hc5 S4
      go_upto_if 28 with (fail)
      go_cut [] from 9 to 31 (fun wx => ∃ m4 : Mv, smMv m4 ∧ Hid (TgD w wx 206 ba bb #[.int .i64 m3.f.x, .int .i64 m3.f.y, .int .i64 m3.t.x, .int .i64 m3.t.y, .int .i64 m3.c] #[.int .i64 m4.f.x, .int .i64 m4.f.y, .int .i64 m4.t.x, .int .i64 m4.t.y, .int .i64 m4.c]))
      case first =>
        cases b5
        · have ac := S5.out.a.cell 4
          have bc := S5.out.b.cell 4
          simp only [List.getElem?_toArray, List.getElem?_cons_zero, List.getElem?_cons_succ] at ac bc
          have bf := S5.out.b.frozen 4
          have S6 := Lib.hid (S5.out.putB 4 (.int .i64 m3.c))
          go_wp2_with fail
          go_meet
          exact ⟨⟨m2.f, m2.t, m3.c⟩, by have := hm2; have := hm3; unfold smMv at *; dsimp only; omega, Lib.hid (TgD.mono (by simpa using S6.out) (by omega))⟩
        · go_wp2_with fail
          go_meet
          exact ⟨m2, hm2, Lib.hid (S5.out.mono (by omega))⟩
      case rest =>
        obtain ⟨m4, hm4, S6⟩ := hcut
        clear S5
        generalize wc = w6 at S6 ⊢
        have hgl := S6.out.cur.lt
        have n1 : w.heap.size ≠ bb := by have := S6.out.o; omega
        have n3 : w.heap.size ≠ ba := by have := S6.out.o; omega
        have n5 : w.heap.size + 1 ≠ ba := by have := S6.out.o; omega
        have n6 : w.heap.size + 1 ≠ bb := by have := S6.out.o; omega
        have CJ1 := Lib.hid (fun (w' : World) (q c : Nat) (h : Cur w' (w.heap.size + 1 + 1) 206) (hB : Blk w' q #[.int .i64 5, .int .i64 (-1)] 3) (hne : q ≠ (w.heap.size + 1 + 1)) => among_any (w.heap.size + 1 + 1) 206 q 2 c #[.int .i64 5, .int .i64 (-1)] [5, -1] (-1) 5 w' h (by omega) hB rfl rfl hne (by simp) (by simp) (by simp))
        have CJ2 := Lib.hid (fun (w' : World) (q c : Nat) (t : Int) (h : Cur w' (w.heap.size + 1 + 1) 208) (hB : Blk w' q #[.int .i64 0, .int .i64 1, .int .i64 2, .int .i64 4, .int .i64 t] 3) (hne : q ≠ (w.heap.size + 1 + 1)) (ht : -1 ≤ t ∧ t ≤ 5) => among_any (w.heap.size + 1 + 1) 208 q 5 c #[.int .i64 0, .int .i64 1, .int .i64 2, .int .i64 4, .int .i64 t] [0, 1, 2, 4, t] (-1) 5 w' h (by omega) hB rfl rfl hne (by simp) (by simp) (by simp; omega))
        have CJ3 := Lib.hid (fun (w' : World) (q c : Nat) (h : Cur w' (w.heap.size + 1 + 1) 210) (hB : Blk w' q #[.int .i64 5, .int .i64 (-1)] 3) (hne : q ≠ (w.heap.size + 1 + 1)) => among_any (w.heap.size + 1 + 1) 210 q 2 c #[.int .i64 5, .int .i64 (-1)] [5, -1] (-1) 5 w' h (by omega) hB rfl rfl hne (by simp) (by simp) (by simp))
        have CJ4 := Lib.hid (fun (w' : World) (q c : Nat) (t : Int) (h : Cur w' (w.heap.size + 1 + 1) 212) (hB : Blk w' q #[.int .i64 0, .int .i64 0, .int .i64 1, .int .i64 4, .int .i64 t] 3) (hne : q ≠ (w.heap.size + 1 + 1)) (ht : -1 ≤ t ∧ t ≤ 5) => among_any (w.heap.size + 1 + 1) 212 q 5 c #[.int .i64 0, .int .i64 0, .int .i64 1, .int .i64 4, .int .i64 t] [0, 0, 1, 4, t] (-1) 5 w' h (by omega) hB rfl rfl hne (by simp) (by simp) (by simp; omega))
        have CS := Lib.hid S6.out.s10
        go_wp2_with fail
        go_region_held3 (fun wx => wx.cell? ⟨ba, 0, none⟩ = some (.int .i64 m3.f.x) ∧ wx.cell? ⟨ba, 1, none⟩ = some (.int .i64 m3.f.y) ∧ wx.cell? ⟨ba, 2, none⟩ = some (.int .i64 m3.t.x) ∧ wx.cell? ⟨ba, 3, none⟩ = some (.int .i64 m3.t.y) ∧ wx.cell? ⟨ba, 4, none⟩ = some (.int .i64 m3.c) ∧ wx.cell? ⟨bb, 0, none⟩ = some (.int .i64 m4.f.x) ∧ wx.cell? ⟨bb, 1, none⟩ = some (.int .i64 m4.f.y) ∧ wx.cell? ⟨bb, 2, none⟩ = some (.int .i64 m4.t.x) ∧ wx.cell? ⟨bb, 3, none⟩ = some (.int .i64 m4.t.y) ∧ wx.cell? ⟨bb, 4, none⟩ = some (.int .i64 m4.c))
          (repeat (first | with_reducible exact CS.out | with_reducible exact hSw10 | with_reducible exact hSw9 | with_reducible exact hSw8 | with_reducible exact hSw7 | with_reducible refine S10.drew ?_ | with_reducible refine S10.alloc ?_ | with_reducible refine S10.put n3 n1 ?_ | with_reducible refine S10.put n5 n6 ?_))
          (first
            | (go_at_call 27; (first | (have hmm := hcw9) | fail); (first | (refine (CJ4.out _ _ _ d3 ?_ ?_ ?_ ?_).mono ?_) | fail); (focus (repeat (first | with_reducible exact hcw9 | with_reducible refine curD ?_ | with_reducible refine Cur.alloc ?_ _))); (focus (repeat (first | with_reducible refine Blk.drew ?_ | with_reducible refine Oth.blk how9 ?_ (by first | omega | (simp; omega)) | with_reducible refine Oth.blk how8 ?_ (by first | omega | (simp; omega)) | with_reducible refine Oth.blk how7 ?_ (by first | omega | (simp; omega)) | (with_reducible refine blkN ?_; (first | (simp; done) | (simp; omega) | rfl)) | with_reducible refine Blk.alloc ?_ _))); (focus (first | omega | (simp; omega))); (focus omega); rintro e w10 ⟨q, rfl, q0, q1, hcw10, how10⟩; have Sw10 : TgD w w10 214 ba bb #[.int .i64 m3.f.x, .int .i64 m3.f.y, .int .i64 m3.t.x, .int .i64 m3.t.y, .int .i64 m3.c] #[.int .i64 m4.f.x, .int .i64 m4.f.y, .int .i64 m4.t.x, .int .i64 m4.t.y, .int .i64 m4.c] := TgD.call (K := 212) (by repeat (first | with_reducible exact Sw9 | with_reducible refine TgD.drew ?_ | with_reducible refine TgD.alloc ?_ _)) how10 hcw10; have hgw10 := hcw10.lt; have hSw10 : w10.cell? ⟨ba, 0, none⟩ = some (.int .i64 m3.f.x) ∧ w10.cell? ⟨ba, 1, none⟩ = some (.int .i64 m3.f.y) ∧ w10.cell? ⟨ba, 2, none⟩ = some (.int .i64 m3.t.x) ∧ w10.cell? ⟨ba, 3, none⟩ = some (.int .i64 m3.t.y) ∧ w10.cell? ⟨ba, 4, none⟩ = some (.int .i64 m3.c) ∧ w10.cell? ⟨bb, 0, none⟩ = some (.int .i64 m4.f.x) ∧ w10.cell? ⟨bb, 1, none⟩ = some (.int .i64 m4.f.y) ∧ w10.cell? ⟨bb, 2, none⟩ = some (.int .i64 m4.t.x) ∧ w10.cell? ⟨bb, 3, none⟩ = some (.int .i64 m4.t.y) ∧ w10.cell? ⟨bb, 4, none⟩ = some (.int .i64 m4.c) := Sw10.s10; have y0 := Sw10.z0.cell 0; have y1 := Sw10.z0.cell 1; have y2 := Sw10.z0.cell 2; have y3 := Sw10.z0.cell 3; have y4 := Sw10.z0.cell 4; (try simp only [List.getElem?_toArray, List.getElem?_cons_zero, List.getElem?_cons_succ] at y0 y1 y2 y3 y4); have yf0 := Sw10.z0.frozen 0; have yf1 := Sw10.z0.frozen 1; have yf2 := Sw10.z0.frozen 2; have yf3 := Sw10.z0.frozen 3; have yf4 := Sw10.z0.frozen 4; have z0 := Sw10.z1.cell 0; have z1 := Sw10.z1.cell 1; have z2 := Sw10.z1.cell 2; have z3 := Sw10.z1.cell 3; have z4 := Sw10.z1.cell 4; (try simp only [List.getElem?_toArray, List.getElem?_cons_zero, List.getElem?_cons_succ] at z0 z1 z2 z3 z4); have zf0 := Sw10.z1.frozen 0; have zf1 := Sw10.z1.frozen 1; have zf2 := Sw10.z1.frozen 2; have zf3 := Sw10.z1.frozen 3; have zf4 := Sw10.z1.frozen 4)
            | (go_at_call 27; (first | (have hmm := hcw8) | fail); (first | (refine (CJ3.out _ _ _ ?_ ?_ ?_).mono ?_) | fail); (focus (repeat (first | with_reducible exact hcw8 | with_reducible refine curD ?_ | with_reducible refine Cur.alloc ?_ _))); (focus (repeat (first | with_reducible refine Blk.drew ?_ | with_reducible refine Oth.blk how9 ?_ (by first | omega | (simp; omega)) | with_reducible refine Oth.blk how8 ?_ (by first | omega | (simp; omega)) | with_reducible refine Oth.blk how7 ?_ (by first | omega | (simp; omega)) | (with_reducible refine blkN ?_; (first | (simp; done) | (simp; omega) | rfl)) | with_reducible refine Blk.alloc ?_ _))); (focus (first | omega | (simp; omega))); rintro e w9 ⟨d3, rfl, d30, d31, hcw9, how9⟩; have Sw9 : TgD w w9 212 ba bb #[.int .i64 m3.f.x, .int .i64 m3.f.y, .int .i64 m3.t.x, .int .i64 m3.t.y, .int .i64 m3.c] #[.int .i64 m4.f.x, .int .i64 m4.f.y, .int .i64 m4.t.x, .int .i64 m4.t.y, .int .i64 m4.c] := TgD.call (K := 210) (by repeat (first | with_reducible exact Sw8 | with_reducible refine TgD.drew ?_ | with_reducible refine TgD.alloc ?_ _)) how9 hcw9; have hgw9 := hcw9.lt; have hSw9 : w9.cell? ⟨ba, 0, none⟩ = some (.int .i64 m3.f.x) ∧ w9.cell? ⟨ba, 1, none⟩ = some (.int .i64 m3.f.y) ∧ w9.cell? ⟨ba, 2, none⟩ = some (.int .i64 m3.t.x) ∧ w9.cell? ⟨ba, 3, none⟩ = some (.int .i64 m3.t.y) ∧ w9.cell? ⟨ba, 4, none⟩ = some (.int .i64 m3.c) ∧ w9.cell? ⟨bb, 0, none⟩ = some (.int .i64 m4.f.x) ∧ w9.cell? ⟨bb, 1, none⟩ = some (.int .i64 m4.f.y) ∧ w9.cell? ⟨bb, 2, none⟩ = some (.int .i64 m4.t.x) ∧ w9.cell? ⟨bb, 3, none⟩ = some (.int .i64 m4.t.y) ∧ w9.cell? ⟨bb, 4, none⟩ = some (.int .i64 m4.c) := Sw9.s10)
            | (go_at_call 27; (first | (have hmm := hcw7) | fail); (first | (refine (CJ2.out _ _ _ d1 ?_ ?_ ?_ ?_).mono ?_) | fail); (focus (repeat (first | with_reducible exact hcw7 | with_reducible refine curD ?_ | with_reducible refine Cur.alloc ?_ _))); (focus (repeat (first | with_reducible refine Blk.drew ?_ | with_reducible refine Oth.blk how9 ?_ (by first | omega | (simp; omega)) | with_reducible refine Oth.blk how8 ?_ (by first | omega | (simp; omega)) | with_reducible refine Oth.blk how7 ?_ (by first | omega | (simp; omega)) | (with_reducible refine blkN ?_; (first | (simp; done) | (simp; omega) | rfl)) | with_reducible refine Blk.alloc ?_ _))); (focus (first | omega | (simp; omega))); (focus omega); rintro e w8 ⟨d, rfl, d0, d1_, hcw8, how8⟩; have Sw8 : TgD w w8 210 ba bb #[.int .i64 m3.f.x, .int .i64 m3.f.y, .int .i64 m3.t.x, .int .i64 m3.t.y, .int .i64 m3.c] #[.int .i64 m4.f.x, .int .i64 m4.f.y, .int .i64 m4.t.x, .int .i64 m4.t.y, .int .i64 m4.c] := TgD.call (K := 208) (by repeat (first | with_reducible exact Sw7 | with_reducible refine TgD.drew ?_ | with_reducible refine TgD.alloc ?_ _)) how8 hcw8; have hgw8 := hcw8.lt; have hSw8 : w8.cell? ⟨ba, 0, none⟩ = some (.int .i64 m3.f.x) ∧ w8.cell? ⟨ba, 1, none⟩ = some (.int .i64 m3.f.y) ∧ w8.cell? ⟨ba, 2, none⟩ = some (.int .i64 m3.t.x) ∧ w8.cell? ⟨ba, 3, none⟩ = some (.int .i64 m3.t.y) ∧ w8.cell? ⟨ba, 4, none⟩ = some (.int .i64 m3.c) ∧ w8.cell? ⟨bb, 0, none⟩ = some (.int .i64 m4.f.x) ∧ w8.cell? ⟨bb, 1, none⟩ = some (.int .i64 m4.f.y) ∧ w8.cell? ⟨bb, 2, none⟩ = some (.int .i64 m4.t.x) ∧ w8.cell? ⟨bb, 3, none⟩ = some (.int .i64 m4.t.y) ∧ w8.cell? ⟨bb, 4, none⟩ = some (.int .i64 m4.c) := Sw8.s10)
            | (go_at_call 27; (first | (refine (CJ1.out _ _ _ ?_ ?_ ?_).mono ?_) | fail); (focus (repeat (first | with_reducible exact S6.out.cur | with_reducible refine curD ?_ | with_reducible refine Cur.alloc ?_ _))); (focus (repeat (first | with_reducible refine Blk.drew ?_ | with_reducible refine Oth.blk how9 ?_ (by first | omega | (simp; omega)) | with_reducible refine Oth.blk how8 ?_ (by first | omega | (simp; omega)) | with_reducible refine Oth.blk how7 ?_ (by first | omega | (simp; omega)) | (with_reducible refine blkN ?_; (first | (simp; done) | (simp; omega) | rfl)) | with_reducible refine Blk.alloc ?_ _))); (focus (first | omega | (simp; omega))); rintro e w7 ⟨d1, rfl, d10, d11, hcw7, how7⟩; have Sw7 : TgD w w7 208 ba bb #[.int .i64 m3.f.x, .int .i64 m3.f.y, .int .i64 m3.t.x, .int .i64 m3.t.y, .int .i64 m3.c] #[.int .i64 m4.f.x, .int .i64 m4.f.y, .int .i64 m4.t.x, .int .i64 m4.t.y, .int .i64 m4.c] := TgD.call (K := 206) (by repeat (first | with_reducible exact S6.out | with_reducible refine TgD.drew ?_ | with_reducible refine TgD.alloc ?_ _)) how7 hcw7; have hgw7 := hcw7.lt; have hSw7 : w7.cell? ⟨ba, 0, none⟩ = some (.int .i64 m3.f.x) ∧ w7.cell? ⟨ba, 1, none⟩ = some (.int .i64 m3.f.y) ∧ w7.cell? ⟨ba, 2, none⟩ = some (.int .i64 m3.t.x) ∧ w7.cell? ⟨ba, 3, none⟩ = some (.int .i64 m3.t.y) ∧ w7.cell? ⟨ba, 4, none⟩ = some (.int .i64 m3.c) ∧ w7.cell? ⟨bb, 0, none⟩ = some (.int .i64 m4.f.x) ∧ w7.cell? ⟨bb, 1, none⟩ = some (.int .i64 m4.f.y) ∧ w7.cell? ⟨bb, 2, none⟩ = some (.int .i64 m4.t.x) ∧ w7.cell? ⟨bb, 3, none⟩ = some (.int .i64 m4.t.y) ∧ w7.cell? ⟨bb, 4, none⟩ = some (.int .i64 m4.c) := Sw7.s10))
        all_goals
          rename_i hHeld
          clear hHeld CS
          obtain ⟨g1, g2, g4⟩ := Sw10.fin (.int .i64 m3.f.x) (.int .i64 m3.f.y) (.int .i64 m3.t.x) (.int .i64 m3.t.y) (.int .i64 m3.c) (.int .i64 m4.f.x) (.int .i64 m4.f.y) (.int .i64 m4.t.x) (.int .i64 m4.t.y) (.int .i64 m4.c)
          clear n1 n3 n5 n6 y0 y1 y2 y3 y4 yf0 yf1 yf2 yf3 yf4 z0 z1 z2 z3 z4 zf0 zf1 zf2 zf3 zf4 CJ1 CJ2 CJ3 CJ4 Sw7 Sw8 Sw9 Sw10 hSw7 hSw8 hSw9 hSw10
          dsimp only [st5] at g1 g2 g4
          generalize ((((((((((w10.setCell ⟨w.heap.size, 0, none⟩ (.int .i64 m3.f.x)).setCell ⟨w.heap.size, 1, none⟩ (.int .i64 m3.f.y)).setCell ⟨w.heap.size, 2, none⟩ (.int .i64 m3.t.x)).setCell ⟨w.heap.size, 3, none⟩ (.int .i64 m3.t.y)).setCell ⟨w.heap.size, 4, none⟩ (.int .i64 m3.c)).setCell ⟨w.heap.size + 1, 0, none⟩ (.int .i64 m4.f.x)).setCell ⟨w.heap.size + 1, 1, none⟩ (.int .i64 m4.f.y)).setCell ⟨w.heap.size + 1, 2, none⟩ (.int .i64 m4.t.x)).setCell ⟨w.heap.size + 1, 3, none⟩ (.int .i64 m4.t.y)).setCell ⟨w.heap.size + 1, 4, none⟩ (.int .i64 m4.c)) = WF at g1 g2 g4 ⊢
          have a0 := g1.cell 0
          have a1 := g1.cell 1
          have a2 := g1.cell 2
          have a3 := g1.cell 3
          have a4 := g1.cell 4
          simp only [List.getElem?_toArray, List.getElem?_cons_zero, List.getElem?_cons_succ] at a0 a1 a2 a3 a4
          have b0 := g2.cell 0
          have b1 := g2.cell 1
          have b2 := g2.cell 2
          have b3 := g2.cell 3
          have b4 := g2.cell 4
          simp only [List.getElem?_toArray, List.getElem?_cons_zero, List.getElem?_cons_succ] at b0 b1 b2 b3 b4
          go_wp2_with fail
          refine bodyPost_ret (v := .tuple #[.agg #[.int .i64 m3.f.x, .int .i64 m3.f.y, .int .i64 m3.t.x, .int .i64 m3.t.y, .int .i64 m3.c], .agg #[.int .i64 m4.f.x, .int .i64 m4.f.y, .int .i64 m4.t.x, .int .i64 m4.t.y, .int .i64 m4.c], .int .i64 d, .int .i64 q]) (by simp [results, Tryz.results4, go_sem, a0, a1, a2, a3, a4, b0, b1, b2, b3, b4]) rfl ?_
          exact ⟨m3, m4, d, q, rfl, hm3, hm4, by omega, by omega, (by first | exact g4 | exact g4.drew)⟩
  · have hd : decide ((16 : Int) < m1.c) = false := decide_eq_false h16
    obtain ⟨m3, hm3, S4⟩ : ∃ m3 : Mv, m3 = m1 ∧ Hid (TgD w ((w1.alloc (.cells #[.int .i64 m1.f.x, .int .i64 m1.f.y, .int .i64 m1.t.x, .int .i64 m1.t.y, .int .i64 m1.c] 26)).alloc (.cells #[.int .i64 m2.f.x, .int .i64 m2.f.y, .int .i64 m2.t.x, .int .i64 m2.t.y, .int .i64 m2.c] 26)) 200 w1.heap.size (w1.heap.size + 1) #[.int .i64 m3.f.x, .int .i64 m3.f.y, .int .i64 m3.t.x, .int .i64 m3.t.y, .int .i64 m3.c] #[.int .i64 m2.f.x, .int .i64 m2.f.y, .int .i64 m2.t.x, .int .i64 m2.t.y, .int .i64 m2.c]) := ⟨m1, rfl, S0⟩
    subst hm3
    have hm3 := hm1
    have fx : ((w1.alloc (.cells #[.int .i64 m3.f.x, .int .i64 m3.f.y, .int .i64 m3.t.x, .int .i64 m3.t.y, .int .i64 m3.c] 26)).alloc (.cells #[.int .i64 m2.f.x, .int .i64 m2.f.y, .int .i64 m2.t.x, .int .i64 m2.t.y, .int .i64 m2.c] 26)).cell? ⟨w1.heap.size, 4, none⟩ = some (.int .i64 m3.c) := S0.out.a.cell 4
    go_upto_region 5 with (fail)
    obtain ⟨ba, hba⟩ : ∃ b, w1.heap.size = b := ⟨_, rfl⟩
    obtain ⟨bb, hbb⟩ : ∃ b, ba + 1 = b := ⟨_, rfl⟩
    have S4 := Lib.hid (S4.out.mono (K' := 202) (by omega))
    rw [hba, hbb] at S4
    rw [hba, hbb]
    clear fx S0
    generalize ((w1.alloc (.cells #[.int .i64 m3.f.x, .int .i64 m3.f.y, .int .i64 m3.t.x, .int .i64 m3.t.y, .int .i64 m3.c] 26)).alloc (.cells #[.int .i64 m2.f.x, .int .i64 m2.f.y, .int .i64 m2.t.x, .int .i64 m2.t.y, .int .i64 m2.c] 26)) = w4 at S4 ⊢
    clear B1 Z0 Z1 hc1 hl1 hba hbb hd
    go_wp2_with fail
    refine (one_any (w.heap.size + 1 + 1) 202 16 _ S4.out.cur (by omega) (by omega)).mono ?_
    rintro e w5 ⟨b5, rfl, hc5, ho5⟩
    have S5 := Lib.hid (S4.out.call ho5 hc5)
    clear ho5 hc5 S4
    go_upto_if 28 with (fail)
    go_cut [] from 9 to 31 (fun wx => ∃ m4 : Mv, smMv m4 ∧ Hid (TgD w wx 206 ba bb #[.int .i64 m3.f.x, .int .i64 m3.f.y, .int .i64 m3.t.x, .int .i64 m3.t.y, .int .i64 m3.c] #[.int .i64 m4.f.x, .int .i64 m4.f.y, .int .i64 m4.t.x, .int .i64 m4.t.y, .int .i64 m4.c]))
    case first =>
      cases b5
      · have ac := S5.out.a.cell 4
        have bc := S5.out.b.cell 4
        simp only [List.getElem?_toArray, List.getElem?_cons_zero, List.getElem?_cons_succ] at ac bc
        have bf := S5.out.b.frozen 4
        have S6 := Lib.hid (S5.out.putB 4 (.int .i64 m3.c))
        go_wp2_with fail
        go_meet
        exact ⟨⟨m2.f, m2.t, m3.c⟩, by have := hm2; have := hm3; unfold smMv at *; dsimp only; omega, Lib.hid (TgD.mono (by simpa using S6.out) (by omega))⟩
      · go_wp2_with fail
        go_meet
        exact ⟨m2, hm2, Lib.hid (S5.out.mono (by omega))⟩
    case rest =>
      obtain ⟨m4, hm4, S6⟩ := hcut
      clear S5
      generalize wc = w6 at S6 ⊢
      have hgl := S6.out.cur.lt
      have n1 : w.heap.size ≠ bb := by have := S6.out.o; omega
      have n3 : w.heap.size ≠ ba := by have := S6.out.o; omega
      have n5 : w.heap.size + 1 ≠ ba := by have := S6.out.o; omega
      have n6 : w.heap.size + 1 ≠ bb := by have := S6.out.o; omega
      have CJ1 := Lib.hid (fun (w' : World) (q c : Nat) (h : Cur w' (w.heap.size + 1 + 1) 206) (hB : Blk w' q #[.int .i64 5, .int .i64 (-1)] 3) (hne : q ≠ (w.heap.size + 1 + 1)) => among_any (w.heap.size + 1 + 1) 206 q 2 c #[.int .i64 5, .int .i64 (-1)] [5, -1] (-1) 5 w' h (by omega) hB rfl rfl hne (by simp) (by simp) (by simp))
      have CJ2 := Lib.hid (fun (w' : World) (q c : Nat) (t : Int) (h : Cur w' (w.heap.size + 1 + 1) 208) (hB : Blk w' q #[.int .i64 0, .int .i64 1, .int .i64 2, .int .i64 4, .int .i64 t] 3) (hne : q ≠ (w.heap.size + 1 + 1)) (ht : -1 ≤ t ∧ t ≤ 5) => among_any (w.heap.size + 1 + 1) 208 q 5 c #[.int .i64 0, .int .i64 1, .int .i64 2, .int .i64 4, .int .i64 t] [0, 1, 2, 4, t] (-1) 5 w' h (by omega) hB rfl rfl hne (by simp) (by simp) (by simp; omega))
      have CJ3 := Lib.hid (fun (w' : World) (q c : Nat) (h : Cur w' (w.heap.size + 1 + 1) 210) (hB : Blk w' q #[.int .i64 5, .int .i64 (-1)] 3) (hne : q ≠ (w.heap.size + 1 + 1)) => among_any (w.heap.size + 1 + 1) 210 q 2 c #[.int .i64 5, .int .i64 (-1)] [5, -1] (-1) 5 w' h (by omega) hB rfl rfl hne (by simp) (by simp) (by simp))
      have CJ4 := Lib.hid (fun (w' : World) (q c : Nat) (t : Int) (h : Cur w' (w.heap.size + 1 + 1) 212) (hB : Blk w' q #[.int .i64 0, .int .i64 0, .int .i64 1, .int .i64 4, .int .i64 t] 3) (hne : q ≠ (w.heap.size + 1 + 1)) (ht : -1 ≤ t ∧ t ≤ 5) => among_any (w.heap.size + 1 + 1) 212 q 5 c #[.int .i64 0, .int .i64 0, .int .i64 1, .int .i64 4, .int .i64 t] [0, 0, 1, 4, t] (-1) 5 w' h (by omega) hB rfl rfl hne (by simp) (by simp) (by simp; omega))
      have CS := Lib.hid S6.out.s10
      go_wp2_with fail
      go_region_held3 (fun wx => wx.cell? ⟨ba, 0, none⟩ = some (.int .i64 m3.f.x) ∧ wx.cell? ⟨ba, 1, none⟩ = some (.int .i64 m3.f.y) ∧ wx.cell? ⟨ba, 2, none⟩ = some (.int .i64 m3.t.x) ∧ wx.cell? ⟨ba, 3, none⟩ = some (.int .i64 m3.t.y) ∧ wx.cell? ⟨ba, 4, none⟩ = some (.int .i64 m3.c) ∧ wx.cell? ⟨bb, 0, none⟩ = some (.int .i64 m4.f.x) ∧ wx.cell? ⟨bb, 1, none⟩ = some (.int .i64 m4.f.y) ∧ wx.cell? ⟨bb, 2, none⟩ = some (.int .i64 m4.t.x) ∧ wx.cell? ⟨bb, 3, none⟩ = some (.int .i64 m4.t.y) ∧ wx.cell? ⟨bb, 4, none⟩ = some (.int .i64 m4.c))
        (repeat (first | with_reducible exact CS.out | with_reducible exact hSw10 | with_reducible exact hSw9 | with_reducible exact hSw8 | with_reducible exact hSw7 | with_reducible refine S10.drew ?_ | with_reducible refine S10.alloc ?_ | with_reducible refine S10.put n3 n1 ?_ | with_reducible refine S10.put n5 n6 ?_))
        (first
          | (go_at_call 27; (first | (have hmm := hcw9) | fail); (first | (refine (CJ4.out _ _ _ d3 ?_ ?_ ?_ ?_).mono ?_) | fail); (focus (repeat (first | with_reducible exact hcw9 | with_reducible refine curD ?_ | with_reducible refine Cur.alloc ?_ _))); (focus (repeat (first | with_reducible refine Blk.drew ?_ | with_reducible refine Oth.blk how9 ?_ (by first | omega | (simp; omega)) | with_reducible refine Oth.blk how8 ?_ (by first | omega | (simp; omega)) | with_reducible refine Oth.blk how7 ?_ (by first | omega | (simp; omega)) | (with_reducible refine blkN ?_; (first | (simp; done) | (simp; omega) | rfl)) | with_reducible refine Blk.alloc ?_ _))); (focus (first | omega | (simp; omega))); (focus omega); rintro e w10 ⟨q, rfl, q0, q1, hcw10, how10⟩; have Sw10 : TgD w w10 214 ba bb #[.int .i64 m3.f.x, .int .i64 m3.f.y, .int .i64 m3.t.x, .int .i64 m3.t.y, .int .i64 m3.c] #[.int .i64 m4.f.x, .int .i64 m4.f.y, .int .i64 m4.t.x, .int .i64 m4.t.y, .int .i64 m4.c] := TgD.call (K := 212) (by repeat (first | with_reducible exact Sw9 | with_reducible refine TgD.drew ?_ | with_reducible refine TgD.alloc ?_ _)) how10 hcw10; have hgw10 := hcw10.lt; have hSw10 : w10.cell? ⟨ba, 0, none⟩ = some (.int .i64 m3.f.x) ∧ w10.cell? ⟨ba, 1, none⟩ = some (.int .i64 m3.f.y) ∧ w10.cell? ⟨ba, 2, none⟩ = some (.int .i64 m3.t.x) ∧ w10.cell? ⟨ba, 3, none⟩ = some (.int .i64 m3.t.y) ∧ w10.cell? ⟨ba, 4, none⟩ = some (.int .i64 m3.c) ∧ w10.cell? ⟨bb, 0, none⟩ = some (.int .i64 m4.f.x) ∧ w10.cell? ⟨bb, 1, none⟩ = some (.int .i64 m4.f.y) ∧ w10.cell? ⟨bb, 2, none⟩ = some (.int .i64 m4.t.x) ∧ w10.cell? ⟨bb, 3, none⟩ = some (.int .i64 m4.t.y) ∧ w10.cell? ⟨bb, 4, none⟩ = some (.int .i64 m4.c) := Sw10.s10; have y0 := Sw10.z0.cell 0; have y1 := Sw10.z0.cell 1; have y2 := Sw10.z0.cell 2; have y3 := Sw10.z0.cell 3; have y4 := Sw10.z0.cell 4; (try simp only [List.getElem?_toArray, List.getElem?_cons_zero, List.getElem?_cons_succ] at y0 y1 y2 y3 y4); have yf0 := Sw10.z0.frozen 0; have yf1 := Sw10.z0.frozen 1; have yf2 := Sw10.z0.frozen 2; have yf3 := Sw10.z0.frozen 3; have yf4 := Sw10.z0.frozen 4; have z0 := Sw10.z1.cell 0; have z1 := Sw10.z1.cell 1; have z2 := Sw10.z1.cell 2; have z3 := Sw10.z1.cell 3; have z4 := Sw10.z1.cell 4; (try simp only [List.getElem?_toArray, List.getElem?_cons_zero, List.getElem?_cons_succ] at z0 z1 z2 z3 z4); have zf0 := Sw10.z1.frozen 0; have zf1 := Sw10.z1.frozen 1; have zf2 := Sw10.z1.frozen 2; have zf3 := Sw10.z1.frozen 3; have zf4 := Sw10.z1.frozen 4)
          | (go_at_call 27; (first | (have hmm := hcw8) | fail); (first | (refine (CJ3.out _ _ _ ?_ ?_ ?_).mono ?_) | fail); (focus (repeat (first | with_reducible exact hcw8 | with_reducible refine curD ?_ | with_reducible refine Cur.alloc ?_ _))); (focus (repeat (first | with_reducible refine Blk.drew ?_ | with_reducible refine Oth.blk how9 ?_ (by first | omega | (simp; omega)) | with_reducible refine Oth.blk how8 ?_ (by first | omega | (simp; omega)) | with_reducible refine Oth.blk how7 ?_ (by first | omega | (simp; omega)) | (with_reducible refine blkN ?_; (first | (simp; done) | (simp; omega) | rfl)) | with_reducible refine Blk.alloc ?_ _))); (focus (first | omega | (simp; omega))); rintro e w9 ⟨d3, rfl, d30, d31, hcw9, how9⟩; have Sw9 : TgD w w9 212 ba bb #[.int .i64 m3.f.x, .int .i64 m3.f.y, .int .i64 m3.t.x, .int .i64 m3.t.y, .int .i64 m3.c] #[.int .i64 m4.f.x, .int .i64 m4.f.y, .int .i64 m4.t.x, .int .i64 m4.t.y, .int .i64 m4.c] := TgD.call (K := 210) (by repeat (first | with_reducible exact Sw8 | with_reducible refine TgD.drew ?_ | with_reducible refine TgD.alloc ?_ _)) how9 hcw9; have hgw9 := hcw9.lt; have hSw9 : w9.cell? ⟨ba, 0, none⟩ = some (.int .i64 m3.f.x) ∧ w9.cell? ⟨ba, 1, none⟩ = some (.int .i64 m3.f.y) ∧ w9.cell? ⟨ba, 2, none⟩ = some (.int .i64 m3.t.x) ∧ w9.cell? ⟨ba, 3, none⟩ = some (.int .i64 m3.t.y) ∧ w9.cell? ⟨ba, 4, none⟩ = some (.int .i64 m3.c) ∧ w9.cell? ⟨bb, 0, none⟩ = some (.int .i64 m4.f.x) ∧ w9.cell? ⟨bb, 1, none⟩ = some (.int .i64 m4.f.y) ∧ w9.cell? ⟨bb, 2, none⟩ = some (.int .i64 m4.t.x) ∧ w9.cell? ⟨bb, 3, none⟩ = some (.int .i64 m4.t.y) ∧ w9.cell? ⟨bb, 4, none⟩ = some (.int .i64 m4.c) := Sw9.s10)
          | (go_at_call 27; (first | (have hmm := hcw7) | fail); (first | (refine (CJ2.out _ _ _ d1 ?_ ?_ ?_ ?_).mono ?_) | fail); (focus (repeat (first | with_reducible exact hcw7 | with_reducible refine curD ?_ | with_reducible refine Cur.alloc ?_ _))); (focus (repeat (first | with_reducible refine Blk.drew ?_ | with_reducible refine Oth.blk how9 ?_ (by first | omega | (simp; omega)) | with_reducible refine Oth.blk how8 ?_ (by first | omega | (simp; omega)) | with_reducible refine Oth.blk how7 ?_ (by first | omega | (simp; omega)) | (with_reducible refine blkN ?_; (first | (simp; done) | (simp; omega) | rfl)) | with_reducible refine Blk.alloc ?_ _))); (focus (first | omega | (simp; omega))); (focus omega); rintro e w8 ⟨d, rfl, d0, d1_, hcw8, how8⟩; have Sw8 : TgD w w8 210 ba bb #[.int .i64 m3.f.x, .int .i64 m3.f.y, .int .i64 m3.t.x, .int .i64 m3.t.y, .int .i64 m3.c] #[.int .i64 m4.f.x, .int .i64 m4.f.y, .int .i64 m4.t.x, .int .i64 m4.t.y, .int .i64 m4.c] := TgD.call (K := 208) (by repeat (first | with_reducible exact Sw7 | with_reducible refine TgD.drew ?_ | with_reducible refine TgD.alloc ?_ _)) how8 hcw8; have hgw8 := hcw8.lt; have hSw8 : w8.cell? ⟨ba, 0, none⟩ = some (.int .i64 m3.f.x) ∧ w8.cell? ⟨ba, 1, none⟩ = some (.int .i64 m3.f.y) ∧ w8.cell? ⟨ba, 2, none⟩ = some (.int .i64 m3.t.x) ∧ w8.cell? ⟨ba, 3, none⟩ = some (.int .i64 m3.t.y) ∧ w8.cell? ⟨ba, 4, none⟩ = some (.int .i64 m3.c) ∧ w8.cell? ⟨bb, 0, none⟩ = some (.int .i64 m4.f.x) ∧ w8.cell? ⟨bb, 1, none⟩ = some (.int .i64 m4.f.y) ∧ w8.cell? ⟨bb, 2, none⟩ = some (.int .i64 m4.t.x) ∧ w8.cell? ⟨bb, 3, none⟩ = some (.int .i64 m4.t.y) ∧ w8.cell? ⟨bb, 4, none⟩ = some (.int .i64 m4.c) := Sw8.s10)
          | (go_at_call 27; (first | (refine (CJ1.out _ _ _ ?_ ?_ ?_).mono ?_) | fail); (focus (repeat (first | with_reducible exact S6.out.cur | with_reducible refine curD ?_ | with_reducible refine Cur.alloc ?_ _))); (focus (repeat (first | with_reducible refine Blk.drew ?_ | with_reducible refine Oth.blk how9 ?_ (by first | omega | (simp; omega)) | with_reducible refine Oth.blk how8 ?_ (by first | omega | (simp; omega)) | with_reducible refine Oth.blk how7 ?_ (by first | omega | (simp; omega)) | (with_reducible refine blkN ?_; (first | (simp; done) | (simp; omega) | rfl)) | with_reducible refine Blk.alloc ?_ _))); (focus (first | omega | (simp; omega))); rintro e w7 ⟨d1, rfl, d10, d11, hcw7, how7⟩; have Sw7 : TgD w w7 208 ba bb #[.int .i64 m3.f.x, .int .i64 m3.f.y, .int .i64 m3.t.x, .int .i64 m3.t.y, .int .i64 m3.c] #[.int .i64 m4.f.x, .int .i64 m4.f.y, .int .i64 m4.t.x, .int .i64 m4.t.y, .int .i64 m4.c] := TgD.call (K := 206) (by repeat (first | with_reducible exact S6.out | with_reducible refine TgD.drew ?_ | with_reducible refine TgD.alloc ?_ _)) how7 hcw7; have hgw7 := hcw7.lt; have hSw7 : w7.cell? ⟨ba, 0, none⟩ = some (.int .i64 m3.f.x) ∧ w7.cell? ⟨ba, 1, none⟩ = some (.int .i64 m3.f.y) ∧ w7.cell? ⟨ba, 2, none⟩ = some (.int .i64 m3.t.x) ∧ w7.cell? ⟨ba, 3, none⟩ = some (.int .i64 m3.t.y) ∧ w7.cell? ⟨ba, 4, none⟩ = some (.int .i64 m3.c) ∧ w7.cell? ⟨bb, 0, none⟩ = some (.int .i64 m4.f.x) ∧ w7.cell? ⟨bb, 1, none⟩ = some (.int .i64 m4.f.y) ∧ w7.cell? ⟨bb, 2, none⟩ = some (.int .i64 m4.t.x) ∧ w7.cell? ⟨bb, 3, none⟩ = some (.int .i64 m4.t.y) ∧ w7.cell? ⟨bb, 4, none⟩ = some (.int .i64 m4.c) := Sw7.s10))
      all_goals
        rename_i hHeld
        clear hHeld CS
        obtain ⟨g1, g2, g4⟩ := Sw10.fin (.int .i64 m3.f.x) (.int .i64 m3.f.y) (.int .i64 m3.t.x) (.int .i64 m3.t.y) (.int .i64 m3.c) (.int .i64 m4.f.x) (.int .i64 m4.f.y) (.int .i64 m4.t.x) (.int .i64 m4.t.y) (.int .i64 m4.c)
        clear n1 n3 n5 n6 y0 y1 y2 y3 y4 yf0 yf1 yf2 yf3 yf4 z0 z1 z2 z3 z4 zf0 zf1 zf2 zf3 zf4 CJ1 CJ2 CJ3 CJ4 Sw7 Sw8 Sw9 Sw10 hSw7 hSw8 hSw9 hSw10
        dsimp only [st5] at g1 g2 g4
        generalize ((((((((((w10.setCell ⟨w.heap.size, 0, none⟩ (.int .i64 m3.f.x)).setCell ⟨w.heap.size, 1, none⟩ (.int .i64 m3.f.y)).setCell ⟨w.heap.size, 2, none⟩ (.int .i64 m3.t.x)).setCell ⟨w.heap.size, 3, none⟩ (.int .i64 m3.t.y)).setCell ⟨w.heap.size, 4, none⟩ (.int .i64 m3.c)).setCell ⟨w.heap.size + 1, 0, none⟩ (.int .i64 m4.f.x)).setCell ⟨w.heap.size + 1, 1, none⟩ (.int .i64 m4.f.y)).setCell ⟨w.heap.size + 1, 2, none⟩ (.int .i64 m4.t.x)).setCell ⟨w.heap.size + 1, 3, none⟩ (.int .i64 m4.t.y)).setCell ⟨w.heap.size + 1, 4, none⟩ (.int .i64 m4.c)) = WF at g1 g2 g4 ⊢
        have a0 := g1.cell 0
        have a1 := g1.cell 1
        have a2 := g1.cell 2
        have a3 := g1.cell 3
        have a4 := g1.cell 4
        simp only [List.getElem?_toArray, List.getElem?_cons_zero, List.getElem?_cons_succ] at a0 a1 a2 a3 a4
        have b0 := g2.cell 0
        have b1 := g2.cell 1
        have b2 := g2.cell 2
        have b3 := g2.cell 3
        have b4 := g2.cell 4
        simp only [List.getElem?_toArray, List.getElem?_cons_zero, List.getElem?_cons_succ] at b0 b1 b2 b3 b4
        go_wp2_with fail
        refine bodyPost_ret (v := .tuple #[.agg #[.int .i64 m3.f.x, .int .i64 m3.f.y, .int .i64 m3.t.x, .int .i64 m3.t.y, .int .i64 m3.c], .agg #[.int .i64 m4.f.x, .int .i64 m4.f.y, .int .i64 m4.t.x, .int .i64 m4.t.y, .int .i64 m4.c], .int .i64 d, .int .i64 q]) (by simp [results, Tryz.results4, go_sem, a0, a1, a2, a3, a4, b0, b1, b2, b3, b4]) rfl ?_
        exact ⟨m3, m4, d, q, rfl, hm3, hm4, by omega, by omega, (by first | exact g4 | exact g4.drew)⟩

end Go.Proofs.YthehcjfljjfnmaaGreat
