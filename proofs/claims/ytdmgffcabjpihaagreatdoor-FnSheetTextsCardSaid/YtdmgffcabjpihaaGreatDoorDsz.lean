/-
  Draws: a sheet (the text Dsh for a seat without grids of spots).
-/
import Derived.Test.YtdmgffcabjpihaaGreatDoorDrd
import Derived.Test.YtdmgffcabjpihaaGreatDoorSht
import Derived.Test.YtdmgffcabjpihaaGreatDoorKeep
import Derived.Test.YtdmgffcabjpihaaGreatDoorRet
import Derived.Test.YtdmgffcabjpihaaGreatDoorFrame
import Derived.StillTailTactics
import Derived.Deep.RegionHeld3
import Derived.Deep.DeepCutAuto
import Derived.Deep.LoopGhost
namespace Go.Proofs.YtdmgffcabjpihaaGreatDoor
open Go.RowKit

theorem below_alloc (w : World) (o : Obj) : Below w.heap.size w (w.alloc o) := (Below.refl _ _).alloc (Nat.le_refl _) o
/-- Rows and sheets that are nearly ones. -/
def smRw (r : Rw) : Prop := 0 ≤ r.c ∧ r.c ≤ 65 ∧ smSp r.t
def Dsht (g k : Nat) (w : World) (e : Ending) (w' : World) : Prop :=
  ∃ (p : Int) (s : Sp) (A : Option Addr) (c : Nat) (L : List Rw), e = .returned (.agg #[.int .i64 p, .int .i64 s.x, .int .i64 s.y, .slice A L.length c]) ∧ w'.ownsRow w.heap.size 46 3 (.slice A L.length c) L.length (rows L) ∧ L.length ≤ 9 ∧ (∀ r ∈ L, smRw r) ∧ Cur w' g k ∧ Oth g w w'
/-- A sheet in the making: in block sb; the result's box is z. -/
structure ShS (w wx : World) (g K z sb : Nat) (p : Int) (s : Sp) (L : List Rw) (rv : Value) : Prop where
  zb : Blk wx z #[.int .i64 0, .int .i64 0, .int .i64 0, .slice none 0 0] 28
  bb : Blk wx sb #[.int .i64 p, .int .i64 s.x, .int .i64 s.y, rv] 28
  own : wx.ownsRow w.heap.size 46 3 rv L.length (rows L)
  nz : rv.ownBlock ≠ some z
  ns : rv.ownBlock ≠ some sb
  cur : Cur wx g K
  oth : Oth g w wx
theorem ShS.next {w wx wy : World} {g K K' z sb : Nat} {p : Int} {s : Sp} {L : List Rw} {rv : Value} (h : ShS w wx g K z sb p s L rv) (ho : Oth g wx wy) (hc : Cur wy g K') (hg : g < w.heap.size) (hz : z ≠ g) (hs : sb ≠ g) : ShS w wy g K' z sb p s L rv :=
  ⟨ho.blk h.zb hz, ho.blk h.bb hs, ho.own h.own hg, h.nz, h.ns, hc, h.oth.trans ho⟩
theorem ShS.alloc {w wx : World} {g K z sb : Nat} {p : Int} {s : Sp} {L : List Rw} {rv : Value} (h : ShS w wx g K z sb p s L rv) (o : Obj) : ShS w (wx.alloc o) g K z sb p s L rv :=
  ⟨h.zb.alloc o, h.bb.alloc o, own_below h.own (below_alloc _ _), h.nz, h.ns, h.cur.alloc o, h.oth.alloc o⟩
/-- A store into another block. -/
theorem ShS.put {w wx : World} {g K z sb : Nat} {p : Int} {s : Sp} {L : List Rw} {rv : Value} (h : ShS w wx g K z sb p s L rv) {b j : Nat} (v : Value) (hz : z ≠ b) (hs : sb ≠ b) (hg : g < b) (hw : w.heap.size ≤ b) (hr : rv.ownBlock ≠ some b) : ShS w (wx.setCell ⟨b, j, none⟩ v) g K z sb p s L rv :=
  ⟨h.zb.other hz v, h.bb.other hs v, ownsRow_setCell_other h.own hr v, h.nz, h.ns, h.cur.put1 hg, h.oth.set (.inr hw) v⟩
theorem ShS.putP {w wx : World} {g K z sb : Nat} {p : Int} {s : Sp} {L : List Rw} {rv : Value} (h : ShS w wx g K z sb p s L rv) (q : Int) (hzs : z ≠ sb) (hg : g < sb) (hw : w.heap.size ≤ sb) : ShS w (wx.setCell ⟨sb, 0, none⟩ (.int .i64 q)) g K z sb q s L rv :=
  ⟨h.zb.other hzs _, h.bb.set 0 _, ownsRow_setCell_other h.own h.ns _, h.nz, h.ns, h.cur.put1 hg, h.oth.set (.inr hw) _⟩
theorem ShS.putS {w wx : World} {g K z sb : Nat} {p : Int} {s : Sp} {L : List Rw} {rv : Value} (h : ShS w wx g K z sb p s L rv) (x y : Int) (hzs : z ≠ sb) (hg : g < sb) (hw : w.heap.size ≤ sb) : ShS w ((wx.setCell ⟨sb, 1, none⟩ (.int .i64 x)).setCell ⟨sb, 2, none⟩ (.int .i64 y)) g K z sb p ⟨x, y⟩ L rv :=
  ⟨(h.zb.other hzs _).other hzs _, (h.bb.set 1 _).set 2 _, ownsRow_setCell_other (ownsRow_setCell_other h.own h.ns _) h.ns _, h.nz, h.ns, (h.cur.put1 hg).put1 hg, (h.oth.set (.inr hw) _).set (.inr hw) _⟩
theorem ShS.cells {w wx : World} {g K z sb : Nat} {p : Int} {s : Sp} {L : List Rw} {rv : Value} (h : ShS w wx g K z sb p s L rv) :
    wx.cell? ⟨sb, 0, none⟩ = some (.int .i64 p) ∧ wx.cell? ⟨sb, 1, none⟩ = some (.int .i64 s.x) ∧ wx.cell? ⟨sb, 2, none⟩ = some (.int .i64 s.y) ∧ wx.cell? ⟨sb, 3, none⟩ = some rv ∧ wx.frozen? ⟨sb, 0, none⟩ = false ∧ wx.frozen? ⟨sb, 1, none⟩ = false ∧ wx.frozen? ⟨sb, 2, none⟩ = false ∧ wx.frozen? ⟨sb, 3, none⟩ = false ∧ sb < wx.heap.size :=
  ⟨h.bb.cell 0, h.bb.cell 1, h.bb.cell 2, h.bb.cell 3, h.bb.frozen 0, h.bb.frozen 1, h.bb.frozen 2, h.bb.frozen 3, h.bb.lt⟩
theorem ShS.zcells {w wx : World} {g K z sb : Nat} {p : Int} {s : Sp} {L : List Rw} {rv : Value} (h : ShS w wx g K z sb p s L rv) :
    wx.cell? ⟨z, 0, none⟩ = some (.int .i64 0) ∧ wx.cell? ⟨z, 1, none⟩ = some (.int .i64 0) ∧ wx.cell? ⟨z, 2, none⟩ = some (.int .i64 0) ∧ wx.cell? ⟨z, 3, none⟩ = some (.slice none 0 0) ∧ wx.frozen? ⟨z, 0, none⟩ = false ∧ wx.frozen? ⟨z, 1, none⟩ = false ∧ wx.frozen? ⟨z, 2, none⟩ = false ∧ wx.frozen? ⟨z, 3, none⟩ = false ∧ z < wx.heap.size :=
  ⟨h.zb.cell 0, h.zb.cell 1, h.zb.cell 2, h.zb.cell 3, h.zb.frozen 0, h.zb.frozen 1, h.zb.frozen 2, h.zb.frozen 3, h.zb.lt⟩
/-- What is handed back: the sheet stored into the result's box. -/
theorem ShS.out {w wx : World} {g K z sb : Nat} {p : Int} {s : Sp} {L : List Rw} {A : Option Addr} {c : Nat} (h : ShS w wx g K z sb p s L (.slice A L.length c)) (hg : g < z) (hw : w.heap.size ≤ z) :
    ((((wx.setCell ⟨z, 0, none⟩ (.int .i64 p)).setCell ⟨z, 1, none⟩ (.int .i64 s.x)).setCell ⟨z, 2, none⟩ (.int .i64 s.y)).setCell ⟨z, 3, none⟩ (.slice A L.length c)).ownsRow w.heap.size 46 3 (.slice A L.length c) L.length (rows L) ∧
    Cur ((((wx.setCell ⟨z, 0, none⟩ (.int .i64 p)).setCell ⟨z, 1, none⟩ (.int .i64 s.x)).setCell ⟨z, 2, none⟩ (.int .i64 s.y)).setCell ⟨z, 3, none⟩ (.slice A L.length c)) g K ∧
    Oth g w ((((wx.setCell ⟨z, 0, none⟩ (.int .i64 p)).setCell ⟨z, 1, none⟩ (.int .i64 s.x)).setCell ⟨z, 2, none⟩ (.int .i64 s.y)).setCell ⟨z, 3, none⟩ (.slice A L.length c)) ∧
    Blk ((((wx.setCell ⟨z, 0, none⟩ (.int .i64 p)).setCell ⟨z, 1, none⟩ (.int .i64 s.x)).setCell ⟨z, 2, none⟩ (.int .i64 s.y)).setCell ⟨z, 3, none⟩ (.slice A L.length c)) z #[.int .i64 p, .int .i64 s.x, .int .i64 s.y, .slice A L.length c] 28 :=
  ⟨ownsRow_setCell_other (ownsRow_setCell_other (ownsRow_setCell_other (ownsRow_setCell_other h.own h.nz _) h.nz _) h.nz _) h.nz _,
   (((h.cur.put1 hg).put1 hg).put1 hg).put1 hg, (((h.oth.set (.inr hw) _).set (.inr hw) _).set (.inr hw) _).set (.inr hw) _, (((h.zb.set 0 _).set 1 _).set 2 _).set 3 _⟩
theorem rows_set0 {L : List Rw} {r : Rw} (h : L[0]? = some r) (x : Int) : rows (L.set 0 ⟨x, r.t⟩) = (rows L).set 0 (.int .i64 x) := by
  cases L with
  | nil => simp at h
  | cons a L => simp at h; subst h; simp [rows]
theorem rows_set12 {L : List Rw} {r : Rw} (h : L[0]? = some r) (x y : Int) : rows (L.set 0 ⟨r.c, ⟨x, y⟩⟩) = ((rows L).set 1 (.int .i64 x)).set 2 (.int .i64 y) := by
  cases L with
  | nil => simp at h
  | cons a L => simp at h; subst h; simp [rows]
section
variable {w wx : World} {g K z sb gr c : Nat} {p : Int} {s : Sp} {L : List Rw} {r : Rw}
theorem ShS.putC (h : ShS w wx g K z sb p s L (.slice (some ⟨gr, 0, none⟩) L.length c)) (h0 : L[0]? = some r) (x : Int) (hg : g < w.heap.size) : ShS w (wx.setCell ⟨gr, 0, none⟩ (.int .i64 x)) g K z sb p s (L.set 0 ⟨x, r.t⟩) (.slice (some ⟨gr, 0, none⟩) L.length c) := by
  have hb := (h.own.lt gr rfl).1
  have hz : z ≠ gr := fun e => h.nz (by rw [e]; rfl)
  have hs : sb ≠ gr := fun e => h.ns (by rw [e]; rfl)
  have st := (h.own.stored 0 (.int .i64 x)).1
  rw [← rows_set0 h0] at st
  exact ⟨h.zb.other hz _, h.bb.other hs _, by rw [List.length_set]; exact st, h.nz, h.ns, h.cur.put1 (by show g < gr; omega), h.oth.set (.inr hb) _⟩
theorem ShS.putT (h : ShS w wx g K z sb p s L (.slice (some ⟨gr, 0, none⟩) L.length c)) (h0 : L[0]? = some r) (x y : Int) (hg : g < w.heap.size) : ShS w ((wx.setCell ⟨gr, 1, none⟩ (.int .i64 x)).setCell ⟨gr, 2, none⟩ (.int .i64 y)) g K z sb p s (L.set 0 ⟨r.c, ⟨x, y⟩⟩) (.slice (some ⟨gr, 0, none⟩) L.length c) := by
  have hb := (h.own.lt gr rfl).1
  have hz : z ≠ gr := fun e => h.nz (by rw [e]; rfl)
  have hs : sb ≠ gr := fun e => h.ns (by rw [e]; rfl)
  have st := (((h.own.stored 1 (.int .i64 x)).1).stored 2 (.int .i64 y)).1
  rw [← rows_set12 h0] at st
  exact ⟨(h.zb.other hz _).other hz _, (h.bb.other hs _).other hs _, by rw [List.length_set]; exact st, h.nz, h.ns, (h.cur.put1 (by show g < gr; omega)).put1 (by show g < gr; omega), (h.oth.set (.inr hb) _).set (.inr hb) _⟩
theorem keepD1 {w : World} {o : Obj} {p1 : Addr} {v1 : Value} (h : w.cell? p1 = some v1) : (w.alloc o).cell? p1 = some v1 := keep1 (below_alloc _ _) h
theorem keepE1 {w : World} {p1 : Addr} {v1 : Value} (h : w.cell? p1 = some v1) : w.drew.cell? p1 = some v1 := h
theorem keepP1 {w : World} {b q o j : Nat} {u x : Value} (h : w.cell? ⟨b, o, none⟩ = some u) (hne : q ≠ b) : (w.setCell ⟨q, j, none⟩ x).cell? ⟨b, o, none⟩ = some u := (World.cell?_setCell_far _ _ _ _ hne).trans h
theorem keepB1 {w w' : World} {g b o : Nat} {u : Value} (h : Oth g w w') (hS : w.cell? ⟨b, o, none⟩ = some u) (hb : b ≠ g) : w'.cell? ⟨b, o, none⟩ = some u :=
  (World.cell?_of_block (a := ⟨b, o, none⟩) (h.block b (World.block_lt_of_cell? w _ hS) hb)).trans hS
theorem smRw_set {L : List Rw} {x : Rw} {k : Nat} (h : ∀ r ∈ L, smRw r) (hx : smRw x) : ∀ r ∈ L.set k x, smRw r := fun r hr => by
  rcases List.mem_or_eq_of_mem_set hr with h1 | h1
  · exact h r h1
  · subst h1; exact hx
end
theorem ShS.drew_ {w wx : World} {g K z sb : Nat} {p : Int} {s : Sp} {L : List Rw} {rv : Value} (h : ShS w wx g K z sb p s L rv) : ShS w wx.drew g K z sb p s L rv := ⟨h.zb, h.bb, own_drew h.own, h.nz, h.ns, h.cur, h.oth.drew⟩
theorem ShS.out2 {w wx : World} {g K z sb n : Nat} {p : Int} {s : Sp} {L : List Rw} {A : Option Addr} {c : Nat} (h : ShS w wx g K z sb p s L (.slice A n c)) (hn : L.length = n) (hg : g < z) (hw : w.heap.size ≤ z) :
    ((((wx.setCell ⟨z, 0, none⟩ (.int .i64 p)).setCell ⟨z, 1, none⟩ (.int .i64 s.x)).setCell ⟨z, 2, none⟩ (.int .i64 s.y)).setCell ⟨z, 3, none⟩ (.slice A n c)).ownsRow w.heap.size 46 3 (.slice A n c) n (rows L) ∧
    Cur ((((wx.setCell ⟨z, 0, none⟩ (.int .i64 p)).setCell ⟨z, 1, none⟩ (.int .i64 s.x)).setCell ⟨z, 2, none⟩ (.int .i64 s.y)).setCell ⟨z, 3, none⟩ (.slice A n c)) g K ∧
    Oth g w ((((wx.setCell ⟨z, 0, none⟩ (.int .i64 p)).setCell ⟨z, 1, none⟩ (.int .i64 s.x)).setCell ⟨z, 2, none⟩ (.int .i64 s.y)).setCell ⟨z, 3, none⟩ (.slice A n c)) ∧
    Blk ((((wx.setCell ⟨z, 0, none⟩ (.int .i64 p)).setCell ⟨z, 1, none⟩ (.int .i64 s.x)).setCell ⟨z, 2, none⟩ (.int .i64 s.y)).setCell ⟨z, 3, none⟩ (.slice A n c)) z #[.int .i64 p, .int .i64 s.x, .int .i64 s.y, .slice A n c] 28 := by
  subst hn
  exact h.out hg hw
set_option maxRecDepth 100000 in
set_option maxHeartbeats 6400000 in
theorem sheet_any (g k : Nat) (w : World) (h : Cur w g k) (hk : k ≤ 300000) : Calls Tryz.prog 44 #[.pointer (some ⟨g, 0, none⟩)] w (Dsht g (k + 800) w) := by
  obtain ⟨r0, hr, hr0, hr1, hr2⟩ := info_parts info_row
  have hlt0 := h.lt
  have HZ0 := Lib.hid (Blk.new w #[.int .i64 0, .int .i64 0, .int .i64 0, .slice none 0 0] 28)
  have HO0 := Lib.hid ((Oth.refl g w).alloc (.cells #[.int .i64 0, .int .i64 0, .int .i64 0, .slice none 0 0] 28))
  go_enter Tryz.func44, Tryz.ntmps44
  go_wp2_with fail
  refine (pick_any g k _ _ 3 (h.alloc _) (by omega) (by omega) (by omega) (by omega)).mono ?_
  rintro e w1 ⟨p, rfl, p0, p1, hc1, ho1⟩
  have HZ1 := Lib.hid (ho1.blk HZ0.out (by omega))
  have O1 := Lib.hid (HO0.out.trans ho1)
  clear ho1 h HZ0 HO0
  go_wp2_with fail
  refine (spot_any g (k + 2) _ hc1 (by omega)).mono ?_
  rintro e w2 ⟨x, y, rfl, x0, x1, y0, y1, hc2, ho2⟩
  have hz2 : w.heap.size < w2.heap.size := (ho2.blk HZ1.out (by omega)).lt
  have S2 := Lib.hid (show ShS w (w2.alloc (.cells #[.int .i64 p, .int .i64 x, .int .i64 y, .slice none 0 0] 28)) g (k + 14) w.heap.size w2.heap.size p ⟨x, y⟩ [] (.slice none 0 0) from
    ⟨(ho2.blk HZ1.out (by omega)).alloc _, Blk.new _ _ _, World.ownsRow_nil _ _ _ _, by simp [Value.ownBlock], by simp [Value.ownBlock], hc2.alloc _, (O1.out.trans ho2).alloc _⟩)
  have hg2 := hc2.lt
  clear ho2 hc1 hc2 HZ1 O1
  go_wp2_with fail
  refine (pick_any g (k + 14) _ _ 4 S2.out.cur (by omega) (by omega) (by omega) (by omega)).mono ?_
  rintro e w3 ⟨n, rfl, n0, n1, hc3, ho3⟩
  have S3 := Lib.hid (S2.out.next ho3 hc3 hlt0 (by omega) (by omega))
  clear ho3 S2
  go_wp2_with fail
  refine (one_any g (k + 16) _ _ hc3 (by omega) (by omega)).mono ?_
  rintro e w4 ⟨b, rfl, hc4, ho4⟩
  have S4 := Lib.hid (S3.out.next ho4 hc4 hlt0 (by omega) (by omega))
  clear ho4 hc3 S3
  go_upto_if 15 with (fail)
  go_cut [4] from 16 to 18 (fun v wx => ∃ q : Int, v = .int .i64 q ∧ 0 ≤ q ∧ q ≤ 9 ∧ Hid (ShS w wx g (k + 20) w.heap.size w2.heap.size p ⟨x, y⟩ [] (.slice none 0 0)))
  case first =>
    cases b
    · have S5 := Lib.hid (S4.out.next (Oth.refl _ _) (hc4.mono (k' := k + 20) (by omega)) hlt0 (by omega) (by omega))
      clear hc4
      go_wp2_with fail
      go_meet
      exact ⟨n, rfl, by omega, by omega, S5⟩
    · go_wp2_with fail
      refine (pick_any g (k + 18) _ _ 1 hc4 (by omega) (by omega) (by omega) (by omega)).mono ?_
      rintro e w5 ⟨q, rfl, q0, q1, hc5, ho5⟩
      have S5 := Lib.hid (S4.out.next ho5 hc5 hlt0 (by omega) (by omega))
      clear ho5 hc4 hc5
      go_wp2_with fail
      go_meet
      exact ⟨8 + q, rfl, by omega, by omega, S5⟩
  case rest =>
    obtain ⟨n, rfl, n0, n1, S5⟩ := hcut
    rename World => w5
    clear S4 hc4
    obtain ⟨c0, c1, c2, c3, f0, f1, f2, f3, hl⟩ := S5.out.cells
    have hzl : w2.heap.size < w5.heap.size := hl
    go_wp2_with fail
    clear c0 c1 c2 c3 f0 f1 f2 f3 hl
    have AT := Lib.hid (Blk.new w5 #[.int .i64 x, .int .i64 y] 25)
    have S6 := Lib.hid (S5.out.alloc (.cells #[.int .i64 x, .int .i64 y] 25))
    go_loopg [] 20 (fun left wr => ∃ (L : List Rw) (rv : Value) (a : Sp), (L.length : Int) ≤ n ∧ left + L.length = 20 ∧ Hid (Blk wr w5.heap.size #[.int .i64 a.x, .int .i64 a.y] 25) ∧ (0 ≤ a.x ∧ a.x ≤ 1280 ∧ 0 ≤ a.y ∧ a.y ≤ 672) ∧ Hid (ShS w wr g (k + 20 + 20 * L.length) w.heap.size w2.heap.size p ⟨x, y⟩ L rv) ∧ Hid (rv.ownBlock ≠ some w5.heap.size) ∧ Hid (∀ r ∈ L, smRw r))
    case atStart => exact ⟨[], .slice none 0 0, ⟨x, y⟩, by simpa using n0, rfl, AT, ⟨by show 0 ≤ x; omega, by show x ≤ 1280; omega, by show 0 ≤ y; omega, by show y ≤ 672; omega⟩, by simpa using S6, Lib.hid (by simp [Value.ownBlock]), Lib.hid (fun r h => by cases h)⟩
    case round =>
      obtain ⟨L, rv, a, hL, hleft, AT, ⟨a0, a1, a2, a3⟩, S, HN, HB⟩ := hrel
      obtain ⟨Ar, cr, rfl⟩ := own_form S.out.own
      obtain ⟨c0, c1, c2, c3, f0, f1, f2, f3, hl⟩ := S.out.cells
      have hl9 : L.length ≤ 9 := by omega
      clear S5 S6
      by_cases hlt : (L.length : Int) < n
      · go_wp2_with fail
        clear c0 c1 c2 c3 f0 f1 f2 f3
        have hgw := S.out.cur.lt
        refine (among_any g (k + 20 + 20 * L.length) _ _ _ _ [1, 4, 8, 8, 16, 64] 0 65 _ (S.out.cur.alloc _) (by omega) (Blk.new _ _ _) rfl rfl (by omega) (by simp) (by simp) (by simp)).mono ?_
        rintro e w6 ⟨q, rfl, q0, q1, hc6, ho6⟩
        have S6 := Lib.hid ((S.out.alloc _).next ho6 hc6 hlt0 (by omega) (by omega))
        have AT6 := Lib.hid (ho6.blk (AT.out.alloc _) (by omega))
        clear ho6 S AT
        go_wp2_with fail
        refine (spot_any g (k + 20 + 20 * L.length + 2) _ hc6 (by omega)).mono ?_
        rintro e w7 ⟨tx, ty, rfl, tx0, tx1, ty0, ty1, hc7, ho7⟩
        have S7 := Lib.hid ((S6.out.next ho7 hc7 hlt0 (by omega) (by omega)).alloc (.cells #[.int .i64 q, .int .i64 tx, .int .i64 ty] 46))
        have AT7 := Lib.hid ((ho7.blk AT6.out (by omega)).alloc (.cells #[.int .i64 q, .int .i64 tx, .int .i64 ty] 46))
        have R7 := Lib.hid (Blk.new w7 #[.int .i64 q, .int .i64 tx, .int .i64 ty] 46)
        have hat7 : w5.heap.size < w7.heap.size := (ho7.blk AT6.out (by omega)).lt
        have hg7 := hc7.lt
        have hrv7 := Lib.hid (show (Value.slice Ar L.length cr).ownBlock ≠ some w7.heap.size from fun e => by have := ((ho7.own S6.out.own hlt0).lt _ e).2; omega)
        clear ho7 hc6 S6 AT6
        go_wp2_with fail
        refine (one_any g (k + 20 + 20 * L.length + 14) _ _ S7.out.cur (by omega) (by omega)).mono ?_
        rintro e w8 ⟨b8, rfl, hc8, ho8⟩
        have S8 := Lib.hid (S7.out.next ho8 hc8 hlt0 (by omega) (by omega))
        have AT8 := Lib.hid (ho8.blk AT7.out (by omega))
        have R8 := Lib.hid (ho8.blk R7.out (by omega))
        clear ho8 hc8 S7 AT7 R7 hc7
        go_upto_if 33 with (fail)
        go_cut [] (fun wx => ∃ t : Sp, (0 ≤ t.x ∧ t.x ≤ 1280 ∧ 0 ≤ t.y ∧ t.y ≤ 672) ∧ Hid (Blk wx w7.heap.size #[.int .i64 q, .int .i64 t.x, .int .i64 t.y] 46) ∧ Hid (ShS w wx g (k + 20 + 20 * L.length + 16) w.heap.size w2.heap.size p ⟨x, y⟩ L (.slice Ar L.length cr)) ∧ Hid (Blk wx w5.heap.size #[.int .i64 a.x, .int .i64 a.y] 25))
        case first =>
          cases b8
          · go_wp2_with fail
            go_meet
            exact ⟨⟨tx, ty⟩, ⟨by show 0 ≤ tx; omega, by show tx ≤ 1280; omega, by show 0 ≤ ty; omega, by show ty ≤ 672; omega⟩, R8, S8, AT8⟩
          · have g0 : w8.drew.cell? ⟨w5.heap.size, 0, none⟩ = some (.int .i64 a.x) := (AT8.out.cell 0).trans rfl
            have g1 : w8.drew.cell? ⟨w5.heap.size, 1, none⟩ = some (.int .i64 a.y) := (AT8.out.cell 1).trans rfl
            have g2 : w8.drew.cell? ⟨w7.heap.size, 0, none⟩ = some (.int .i64 q) := (R8.out.cell 0).trans rfl
            have g3 : w8.drew.cell? ⟨w7.heap.size, 1, none⟩ = some (.int .i64 tx) := (R8.out.cell 1).trans rfl
            have g4 : w8.drew.cell? ⟨w7.heap.size, 2, none⟩ = some (.int .i64 ty) := (R8.out.cell 2).trans rfl
            have g5 : w8.drew.frozen? ⟨w7.heap.size, 1, none⟩ = false := R8.out.frozen 1
            have g6 : w8.drew.frozen? ⟨w7.heap.size, 2, none⟩ = false := R8.out.frozen 2
            have hsum : IntKind.i64.wrap (a.x + q) = a.x + q := IntWalk.i64_in _ (by omega)
            have hmn : 0 ≤ min 1280 (a.x + q) ∧ min 1280 (a.x + q) ≤ 1280 := by omega
            have R9 := Lib.hid (show Blk w8.drew w7.heap.size _ _ from R8.out)
            have S9 := Lib.hid (show ShS w w8.drew g (k + 20 + 20 * L.length + 16) w.heap.size w2.heap.size p ⟨x, y⟩ L (.slice Ar L.length cr) from ⟨S8.out.zb, S8.out.bb, own_drew S8.out.own, S8.out.nz, S8.out.ns, S8.out.cur, S8.out.oth.drew⟩)
            have AT9 := Lib.hid (show Blk w8.drew w5.heap.size _ _ from AT8.out)
            have hl8 := R8.out.lt
            have hl9' : w7.heap.size < w8.drew.heap.size := hl8
            clear S8 AT8 R8
            go_wp2_with fail
            refine wp_region_still_tail 10 (by kernel_rfl) (by kernel_rfl) ?_
            change wpStill _ _ w8.drew (fun a' => wpList _ _ _ _ a' w8.drew) _ _
            generalize w8.drew = w9 at *
            simp only [List.take_succ_cons, List.take_zero, List.drop_succ_cons, List.drop_zero]
            repeat still_step
            still_call ((l1Least_any 1280 (a.x + q) _).mono fun _ _ ⟨h1, h2⟩ => ⟨h1, h2.symm⟩)
            repeat still_step
            refine wpStill_nil ?_
            go_wp2
            go_meet
            exact ⟨⟨min 1280 (a.x + q), a.y⟩, ⟨hmn.1, hmn.2, a2, a3⟩, Lib.hid ((R9.out.set 1 _).set 2 _), Lib.hid ((S9.out.put _ (by omega) (by omega) (by omega) (by omega) hrv7.out).put _ (by omega) (by omega) (by omega) (by omega) hrv7.out), Lib.hid ((AT9.out.other (by omega) _).other (by omega) _)⟩
        case rest =>
          obtain ⟨t, ⟨t0, t1, t2, t3⟩, R, S, AT⟩ := hcut
          rename World => w9
          clear S8 AT8 R8
          obtain ⟨c0, c1, c2, c3, f0, f1, f2, f3, hl'⟩ := S.out.cells
          have u0 : w9.cell? ⟨w7.heap.size, 0, none⟩ = some (.int .i64 q) := (R.out.cell 0).trans rfl
          have u1 : w9.cell? ⟨w7.heap.size, 1, none⟩ = some (.int .i64 t.x) := (R.out.cell 1).trans rfl
          have u2 : w9.cell? ⟨w7.heap.size, 2, none⟩ = some (.int .i64 t.y) := (R.out.cell 2).trans rfl
          have hl7 := R.out.lt
          have hz9 : w.heap.size ≤ w9.heap.size := S.out.oth.size
          have hza := S.out.zb.lt
          go_wp2_with (at_builtin; (refine wpList_append_keep _ rfl (.tmp 45) (.tmp 47) 26 rfl w.heap.size 46 r0 (.agg #[.int .i64 0, .int .i64 0, .int .i64 0]) 3 24 Tryz.underlying26 hr hr0 hr1 hr2 rfl (by omega) _ _ _ rfl S.out.own _ _ _ (congrArg (fun g => Value.slice (some ⟨g, 0, none⟩) 1 1) (by simp)) rfl rfl (by omega) (by omega) (by omega) ?_; intro v' w10 hown' hb10 hkeep hsz10; obtain ⟨A9, q9, rfl⟩ := own_form hown'; obtain ⟨ks1, ks2⟩ := hkeep w2.heap.size hl' S.out.ns; obtain ⟨kz1, kz2⟩ := hkeep w.heap.size hza S.out.nz; obtain ⟨kr1, kr2⟩ := hkeep w7.heap.size hl7 hrv7.out; obtain ⟨ka1, ka2⟩ := hkeep w5.heap.size (by omega) HN.out; have SB := Lib.hid (show Blk w10 w2.heap.size _ _ from ks1.trans S.out.bb); have ZB := Lib.hid (show Blk w10 w.heap.size _ _ from kz1.trans S.out.zb); have RB := Lib.hid (show Blk w10 w7.heap.size _ _ from kr1.trans R.out); have AB := Lib.hid (show Blk w10 w5.heap.size _ _ from ka1.trans AT.out); have d3 := (SB.out.cell 3).trans (show _ = some (Value.slice Ar L.length cr) from rfl); have d4 := SB.out.frozen 3; have d5 := (RB.out.cell 1).trans (show _ = some (Value.int .i64 t.x) from rfl); have d6 := (RB.out.cell 2).trans (show _ = some (Value.int .i64 t.y) from rfl); have d7 := (AB.out.cell 0).trans (show _ = some (Value.int .i64 a.x) from rfl); have d8 := (AB.out.cell 1).trans (show _ = some (Value.int .i64 a.y) from rfl); have d9 := AB.out.frozen 0; have d10 := AB.out.frozen 1; have e1_ : w7.heap.size ≠ w2.heap.size := (by omega); have e2_ : w5.heap.size ≠ w2.heap.size := (by omega); have dl1 := SB.out.lt; have dl2 := RB.out.lt; have dl3 := AB.out.lt; clear hkeep ks1 kz1 kr1 ka1))
          go_roundg (gk - 1)
          case measure => omega
          case rel =>
            refine ⟨L ++ [⟨q, t⟩], .slice A9 (L.length + 1) q9, t, by simp; omega, by simp; omega, Lib.hid (((AB.out.other e2_ _).set 0 _).set 1 _), ⟨t0, t1, t2, t3⟩, Lib.hid ⟨?_, ?_, ?_, kz2, ks2, ?_, ?_⟩, Lib.hid ka2, Lib.hid (fun r hr => ?_)⟩
            · exact ((ZB.out.other (by omega) _).other (by omega) _).other (by omega) _
            · exact ((SB.out.set 3 _).other (by omega) _).other (by omega) _
            · rw [List.length_append, rows_snoc]
              exact ownsRow_setCell_other (ownsRow_setCell_other (ownsRow_setCell_other hown' ks2 _) ka2 _) ka2 _
            · exact ((((S.out.cur.below hb10 hlt0).put1 (by show g < w2.heap.size; omega)).put1 (by show g < w5.heap.size; omega)).put1 (by show g < w5.heap.size; omega)).mono (by simp; omega)
            · exact (((Oth.of_base hb10 hz9 S.out.oth).set (.inr (by show w.heap.size ≤ w2.heap.size; omega)) _).set (.inr (by show w.heap.size ≤ w5.heap.size; omega)) _).set (.inr (by show w.heap.size ≤ w5.heap.size; omega)) _
            · rcases List.mem_append.1 hr with h1 | h1
              · exact HB.out r h1
              · simp at h1; subst h1; exact ⟨q0, q1, show -1 ≤ t.x by omega, show t.x ≤ 1281 by omega, show -1 ≤ t.y by omega, show t.y ≤ 673 by omega⟩
      · go_wp2_with fail
        clear c0 c1 c2 c3 f0 f1 f2 f3
        refine (pick_any g (k + 20 + 20 * L.length) _ _ 29 S.out.cur (by omega) (by omega) (by omega) (by omega)).mono ?_
        rintro e w6 ⟨r, rfl, hr0_, hr1_, hc6, ho6⟩
        have S6 := Lib.hid (S.out.next ho6 hc6 hlt0 (by omega) (by omega))
        have hgw := hc6.lt
        clear ho6 S AT
        by_cases h0 : r = 0
        · subst h0
          go_wp2_with fail
          refine (among_any g (k + 20 + 20 * L.length + 2) _ _ _ _ [-1, 11, 12] (-1) 12 _ (hc6.alloc _) (by omega) (Blk.new _ _ _) rfl rfl (by omega) (by simp) (by simp) (by simp)).mono ?_
          rintro e w7 ⟨q, rfl, q0, q1, hc7, ho7⟩
          have S7 := Lib.hid ((S6.out.alloc _).next ho7 hc7 hlt0 (by omega) (by omega))
          clear ho7 hc7 hc6 S6
          obtain ⟨c0, c1, c2, c3, f0, f1, f2, f3, hl'⟩ := S7.out.cells
          go_upto_region 23 with (fail)
          clear c0 c1 c2 c3 f0 f1 f2 f3
          have S9 := Lib.hid (S7.out.putP q (by omega) (by omega) (by omega))
          clear S7
          generalize (w7.setCell ⟨w2.heap.size, 0, none⟩ (.int .i64 q)) = W9 at *
          obtain ⟨c0, c1, c2, c3, f0, f1, f2, f3, hl'⟩ := S9.out.cells
          obtain ⟨z0, z1, z2, z3, v0_, v1_, v2_, v3_, hl2⟩ := S9.out.zcells
          go_wp2_with fail
          obtain ⟨o1, o2, o3, o4⟩ := S9.out.out (by omega) (Nat.le_refl _)
          have HO1 := Lib.hid o1
          have HO2 := Lib.hid o2
          have HO3 := Lib.hid o3
          have HO4 := Lib.hid o4
          clear o1 o2 o3 o4 c0 c1 c2 c3 f0 f1 f2 f3 z0 z1 z2 z3 v0_ v1_ v2_ v3_ S9
          generalize ((((W9.setCell ⟨w.heap.size, 0, none⟩ (.int .i64 q)).setCell ⟨w.heap.size, 1, none⟩ (.int .i64 x)).setCell ⟨w.heap.size, 2, none⟩ (.int .i64 y)).setCell ⟨w.heap.size, 3, none⟩ (.slice Ar L.length cr)) = WF at *
          have C0 : WF.cell? ⟨w.heap.size, 0, none⟩ = some (.int .i64 q) := (HO4.out.cell 0).trans rfl
          have C1 : WF.cell? ⟨w.heap.size, 1, none⟩ = some (.int .i64 x) := (HO4.out.cell 1).trans rfl
          have C2 : WF.cell? ⟨w.heap.size, 2, none⟩ = some (.int .i64 y) := (HO4.out.cell 2).trans rfl
          have C3 : WF.cell? ⟨w.heap.size, 3, none⟩ = some (.slice Ar L.length cr) := (HO4.out.cell 3).trans rfl
          refine bodyPost_ret (v := .agg #[.int .i64 q, .int .i64 x, .int .i64 y, .slice Ar L.length cr]) (by simp [results, Tryz.results44, go_sem, C0, C1, C2, C3]) rfl ?_
          exact ⟨_, ⟨x, y⟩, Ar, cr, L, rfl, HO1.out, hl9, HB.out, HO2.out.mono (by omega), HO3.out⟩
        have e0 : ((r : Int) == 0) = false := beq_eq_false_iff_ne.2 h0
        clear h0
        by_cases h1 : r = 1
        · subst h1
          go_wp2_with fail
          refine (anySpot_any g (k + 20 + 20 * L.length + 2) _ hc6 (by omega)).mono ?_
          rintro e w7 ⟨X, Y, rfl, X0, X1, Y0, Y1, hc7, ho7⟩
          have S7 := Lib.hid (S6.out.next ho7 hc7 hlt0 (by omega) (by omega))
          clear ho7 hc7 hc6 S6
          obtain ⟨c0, c1, c2, c3, f0, f1, f2, f3, hl'⟩ := S7.out.cells
          go_upto_region 23 with (fail)
          clear c0 c1 c2 c3 f0 f1 f2 f3
          have S9 := Lib.hid (S7.out.putS X Y (by omega) (by omega) (by omega))
          clear S7
          generalize ((w7.setCell ⟨w2.heap.size, 1, none⟩ (.int .i64 X)).setCell ⟨w2.heap.size, 2, none⟩ (.int .i64 Y)) = W9 at *
          obtain ⟨c0, c1, c2, c3, f0, f1, f2, f3, hl'⟩ := S9.out.cells
          obtain ⟨z0, z1, z2, z3, v0_, v1_, v2_, v3_, hl2⟩ := S9.out.zcells
          go_wp2_with fail
          obtain ⟨o1, o2, o3, o4⟩ := S9.out.out (by omega) (Nat.le_refl _)
          have HO1 := Lib.hid o1
          have HO2 := Lib.hid o2
          have HO3 := Lib.hid o3
          have HO4 := Lib.hid o4
          clear o1 o2 o3 o4 c0 c1 c2 c3 f0 f1 f2 f3 z0 z1 z2 z3 v0_ v1_ v2_ v3_ S9
          generalize ((((W9.setCell ⟨w.heap.size, 0, none⟩ (.int .i64 p)).setCell ⟨w.heap.size, 1, none⟩ (.int .i64 X)).setCell ⟨w.heap.size, 2, none⟩ (.int .i64 Y)).setCell ⟨w.heap.size, 3, none⟩ (.slice Ar L.length cr)) = WF at *
          have C0 : WF.cell? ⟨w.heap.size, 0, none⟩ = some (.int .i64 p) := (HO4.out.cell 0).trans rfl
          have C1 : WF.cell? ⟨w.heap.size, 1, none⟩ = some (.int .i64 X) := (HO4.out.cell 1).trans rfl
          have C2 : WF.cell? ⟨w.heap.size, 2, none⟩ = some (.int .i64 Y) := (HO4.out.cell 2).trans rfl
          have C3 : WF.cell? ⟨w.heap.size, 3, none⟩ = some (.slice Ar L.length cr) := (HO4.out.cell 3).trans rfl
          refine bodyPost_ret (v := .agg #[.int .i64 p, .int .i64 X, .int .i64 Y, .slice Ar L.length cr]) (by simp [results, Tryz.results44, go_sem, C0, C1, C2, C3]) rfl ?_
          exact ⟨_, ⟨X, Y⟩, Ar, cr, L, rfl, HO1.out, hl9, HB.out, HO2.out.mono (by omega), HO3.out⟩
        have e1 : ((r : Int) == 1) = false := beq_eq_false_iff_ne.2 h1
        clear h1
        by_cases h2 : r = 2
        · subst h2
          by_cases hn0 : 0 < n
          case neg =>
            obtain ⟨W9, hW9⟩ : ∃ W, W = w6 := ⟨_, rfl⟩
            subst hW9
            clear hc6
            obtain ⟨c0, c1, c2, c3, f0, f1, f2, f3, hl'⟩ := S6.out.cells
            obtain ⟨z0, z1, z2, z3, v0_, v1_, v2_, v3_, hl2⟩ := S6.out.zcells
            go_wp2_with fail
            obtain ⟨o1, o2, o3, o4⟩ := S6.out.out (by omega) (Nat.le_refl _)
            have HO1 := Lib.hid o1
            have HO2 := Lib.hid o2
            have HO3 := Lib.hid o3
            have HO4 := Lib.hid o4
            clear o1 o2 o3 o4 c0 c1 c2 c3 f0 f1 f2 f3 z0 z1 z2 z3 v0_ v1_ v2_ v3_ S6
            generalize ((((W9.setCell ⟨w.heap.size, 0, none⟩ (.int .i64 p)).setCell ⟨w.heap.size, 1, none⟩ (.int .i64 x)).setCell ⟨w.heap.size, 2, none⟩ (.int .i64 y)).setCell ⟨w.heap.size, 3, none⟩ (.slice Ar L.length cr)) = WF at *
            have C0 : WF.cell? ⟨w.heap.size, 0, none⟩ = some (.int .i64 p) := (HO4.out.cell 0).trans rfl
            have C1 : WF.cell? ⟨w.heap.size, 1, none⟩ = some (.int .i64 x) := (HO4.out.cell 1).trans rfl
            have C2 : WF.cell? ⟨w.heap.size, 2, none⟩ = some (.int .i64 y) := (HO4.out.cell 2).trans rfl
            have C3 : WF.cell? ⟨w.heap.size, 3, none⟩ = some (.slice Ar L.length cr) := (HO4.out.cell 3).trans rfl
            refine bodyPost_ret (v := .agg #[.int .i64 p, .int .i64 x, .int .i64 y, .slice Ar L.length cr]) (by simp [results, Tryz.results44, go_sem, C0, C1, C2, C3]) rfl ?_
            exact ⟨_, ⟨x, y⟩, Ar, cr, L, rfl, HO1.out, hl9, HB.out, HO2.out.mono (by omega), HO3.out⟩
          have hlp : 0 < L.length := by omega
          obtain ⟨gr, rfl, hgr1, hgr2⟩ := own_addr S6.out.own hlp
          obtain ⟨t0, ht0⟩ := some_of_lt (L := L) (k := 0) hlp
          have HT0 := Lib.hid ht0
          have HS0 := Lib.hid (show w6.cell? ⟨w2.heap.size, 3, none⟩ = some (.slice (some ⟨gr, 0, none⟩) L.length cr) from S6.out.cells.2.2.2.1)
          have hgs : gr ≠ w2.heap.size := fun e => S6.out.ns (by rw [e]; rfl)
          have hi0 : (0 : Int) < (L.length : Int) := by omega
          have hzb : w2.heap.size ≠ g := by omega
          have hsl := S6.out.cells.2.2.2.2.2.2.2.2
          have CJ1 := Lib.hid (fun (w : World) (b c : Nat) (h : Cur w g (k + 20 + 20 * L.length + 2)) (hB : Blk w b #[.int .i64 0, .int .i64 65] 3) (hne : b ≠ g) => among_any g (k + 20 + 20 * L.length + 2) b 2 c #[.int .i64 0, .int .i64 65] [0, 65] 0 65 w h (by omega) hB rfl rfl hne (by simp) (by simp) (by simp))
          have HSN1 := Lib.hid (fun (wy : World) (ho : Oth g (w6.alloc (.cells #[.int .i64 0, .int .i64 65] 3)).drew wy) (hc : Cur wy g (k + 20 + 20 * L.length + 2 + 2)) => ShS.next (S6.out.alloc (.cells #[.int .i64 0, .int .i64 65] 3)).drew_ ho hc hlt0 (by omega) hzb)
          have HSN2 := Lib.hid (fun (wy : World) (ho : Oth g (w6.drew.alloc (.cells #[.int .i64 0, .int .i64 65] 3)) wy) (hc : Cur wy g (k + 20 + 20 * L.length + 2 + 2)) => ShS.next (S6.out.drew_.alloc (.cells #[.int .i64 0, .int .i64 65] 3)) ho hc hlt0 (by omega) hzb)
          have HC4 := Lib.hid hc6
          clear hc6 ht0
          go_wp2_with fail
          go_region_held3 (fun wx => wx.cell? ⟨w2.heap.size, 3, none⟩ = some (.slice (some ⟨gr, 0, none⟩) L.length cr))
            (first | with_reducible exact HS0.out | with_reducible exact keepE1 HS0.out | with_reducible exact hS5 | with_reducible exact keepP1 hS5 hgs | with_reducible exact keepD1 HS0.out | with_reducible exact keepE1 (keepD1 HS0.out) | with_reducible exact keepD1 (keepE1 HS0.out) | with_reducible assumption | with_reducible exact keepD1 (by with_reducible assumption))
            (first
              | (go_at_call 71; (first | (refine (CJ1.out _ _ _ ?_ ?_ ?_).mono ?_) | fail); (focus (repeat (first | with_reducible exact HC4.out | with_reducible refine cur_drew ?_ | with_reducible refine Cur.alloc ?_ _))); (focus (repeat (first | with_reducible refine Blk.drew ?_ | (with_reducible refine blk_new ?_; (first | (simp; done) | (simp; omega))) | with_reducible refine Blk.alloc ?_ _))); (focus (first | omega | (simp; omega))); rintro e w5' ⟨n1', rfl, n10, n11, hc5, ho5⟩; have hS5 : w5'.cell? ⟨w2.heap.size, 3, none⟩ = some (.slice (some ⟨gr, 0, none⟩) L.length cr) := keepB1 ho5 (by repeat (first | with_reducible exact HS0.out | with_reducible refine keepE1 ?_ | with_reducible refine keepD1 ?_)) hzb; (first | have S7 := Lib.hid (HSN1.out _ ho5 hc5) | have S7 := Lib.hid (HSN2.out _ ho5 hc5)); obtain ⟨bq, oq, eq_, x0_, x1_, x2_⟩ := (Mem.of_own S7.out.own).row HT0.out; (cases eq_); have fz := S7.out.own.frozenAt 0; (rw [Nat.zero_mul, Nat.zero_add] at x0_); have hgl := (S7.out.own.lt gr rfl).2))
          all_goals
            have HSM := Lib.hid (show smRw ⟨n1', t0.t⟩ from ⟨n10, n11, (HB.out t0 (List.mem_of_getElem? HT0.out)).2.2⟩)
            have S9 := Lib.hid (S7.out.putC HT0.out n1' hlt0)
            clear S7 x0_ x1_ x2_ fz hS5 ho5
            generalize (w5'.setCell ⟨gr, 0, none⟩ (.int .i64 n1')) = W9 at *
            obtain ⟨c0, c1, c2, c3, f0, f1, f2, f3, hl'⟩ := S9.out.cells
            obtain ⟨z0, z1, z2, z3, v0_, v1_, v2_, v3_, hl2⟩ := S9.out.zcells
            go_wp2_with fail
            obtain ⟨o1, o2, o3, o4⟩ := S9.out.out2 List.length_set (by omega) (Nat.le_refl _)
            have HO1 := Lib.hid o1
            have HO2 := Lib.hid o2
            have HO3 := Lib.hid o3
            have HO4 := Lib.hid o4
            clear o1 o2 o3 o4 c0 c1 c2 c3 f0 f1 f2 f3 z0 z1 z2 z3 v0_ v1_ v2_ v3_ S9
            generalize ((((W9.setCell ⟨w.heap.size, 0, none⟩ (.int .i64 p)).setCell ⟨w.heap.size, 1, none⟩ (.int .i64 x)).setCell ⟨w.heap.size, 2, none⟩ (.int .i64 y)).setCell ⟨w.heap.size, 3, none⟩ (.slice (some ⟨gr, 0, none⟩) L.length cr)) = WF at *
            have C0 : WF.cell? ⟨w.heap.size, 0, none⟩ = some (.int .i64 p) := (HO4.out.cell 0).trans rfl
            have C1 : WF.cell? ⟨w.heap.size, 1, none⟩ = some (.int .i64 x) := (HO4.out.cell 1).trans rfl
            have C2 : WF.cell? ⟨w.heap.size, 2, none⟩ = some (.int .i64 y) := (HO4.out.cell 2).trans rfl
            have C3 : WF.cell? ⟨w.heap.size, 3, none⟩ = some (.slice (some ⟨gr, 0, none⟩) L.length cr) := (HO4.out.cell 3).trans rfl
            refine bodyPost_ret (v := .agg #[.int .i64 p, .int .i64 x, .int .i64 y, .slice (some ⟨gr, 0, none⟩) L.length cr]) (by simp [results, Tryz.results44, go_sem, C0, C1, C2, C3]) rfl ?_
            exact ⟨_, ⟨x, y⟩, some ⟨gr, 0, none⟩, cr, (L.set 0 ⟨n1', t0.t⟩), by rw [List.length_set], by rw [List.length_set]; exact HO1.out, by rw [List.length_set]; exact hl9, smRw_set HB.out HSM.out, HO2.out.mono (by omega), HO3.out⟩
        have e2 : ((r : Int) == 2) = false := beq_eq_false_iff_ne.2 h2
        clear h2
        by_cases h3 : r = 3
        · subst h3
          by_cases hn0 : 0 < n
          case neg =>
            obtain ⟨W9, hW9⟩ : ∃ W, W = w6 := ⟨_, rfl⟩
            subst hW9
            clear hc6
            obtain ⟨c0, c1, c2, c3, f0, f1, f2, f3, hl'⟩ := S6.out.cells
            obtain ⟨z0, z1, z2, z3, v0_, v1_, v2_, v3_, hl2⟩ := S6.out.zcells
            go_wp2_with fail
            obtain ⟨o1, o2, o3, o4⟩ := S6.out.out (by omega) (Nat.le_refl _)
            have HO1 := Lib.hid o1
            have HO2 := Lib.hid o2
            have HO3 := Lib.hid o3
            have HO4 := Lib.hid o4
            clear o1 o2 o3 o4 c0 c1 c2 c3 f0 f1 f2 f3 z0 z1 z2 z3 v0_ v1_ v2_ v3_ S6
            generalize ((((W9.setCell ⟨w.heap.size, 0, none⟩ (.int .i64 p)).setCell ⟨w.heap.size, 1, none⟩ (.int .i64 x)).setCell ⟨w.heap.size, 2, none⟩ (.int .i64 y)).setCell ⟨w.heap.size, 3, none⟩ (.slice Ar L.length cr)) = WF at *
            have C0 : WF.cell? ⟨w.heap.size, 0, none⟩ = some (.int .i64 p) := (HO4.out.cell 0).trans rfl
            have C1 : WF.cell? ⟨w.heap.size, 1, none⟩ = some (.int .i64 x) := (HO4.out.cell 1).trans rfl
            have C2 : WF.cell? ⟨w.heap.size, 2, none⟩ = some (.int .i64 y) := (HO4.out.cell 2).trans rfl
            have C3 : WF.cell? ⟨w.heap.size, 3, none⟩ = some (.slice Ar L.length cr) := (HO4.out.cell 3).trans rfl
            refine bodyPost_ret (v := .agg #[.int .i64 p, .int .i64 x, .int .i64 y, .slice Ar L.length cr]) (by simp [results, Tryz.results44, go_sem, C0, C1, C2, C3]) rfl ?_
            exact ⟨_, ⟨x, y⟩, Ar, cr, L, rfl, HO1.out, hl9, HB.out, HO2.out.mono (by omega), HO3.out⟩
          have hlp : 0 < L.length := by omega
          obtain ⟨gr, rfl, hgr1, hgr2⟩ := own_addr S6.out.own hlp
          obtain ⟨t0, ht0⟩ := some_of_lt (L := L) (k := 0) hlp
          have HT0 := Lib.hid ht0
          have HS0 := Lib.hid (show w6.cell? ⟨w2.heap.size, 3, none⟩ = some (.slice (some ⟨gr, 0, none⟩) L.length cr) from S6.out.cells.2.2.2.1)
          have hgs : gr ≠ w2.heap.size := fun e => S6.out.ns (by rw [e]; rfl)
          have hi0 : (0 : Int) < (L.length : Int) := by omega
          have hzb : w2.heap.size ≠ g := by omega
          have hsl := S6.out.cells.2.2.2.2.2.2.2.2
          have CJ1 := Lib.hid (fun (w : World) (h : Cur w g (k + 20 + 20 * L.length + 2)) => anySpot_any g (k + 20 + 20 * L.length + 2) w h (by omega))
          have HSN1 := Lib.hid (fun (wy : World) (ho : Oth g w6.drew wy) (hc : Cur wy g (k + 20 + 20 * L.length + 2 + 16)) => ShS.next S6.out.drew_ ho hc hlt0 (by omega) hzb)
          have HC4 := Lib.hid hc6
          clear hc6 ht0
          go_wp2_with fail
          go_region_held3 (fun wx => wx.cell? ⟨w2.heap.size, 3, none⟩ = some (.slice (some ⟨gr, 0, none⟩) L.length cr))
            (first | with_reducible exact HS0.out | with_reducible exact keepE1 HS0.out | with_reducible exact hS5 | with_reducible exact keepP1 (keepP1 hS5 hgs) hgs | with_reducible exact keepD1 HS0.out | with_reducible assumption)
            (first
              | (go_at_call 73; (first | (refine (CJ1.out _ ?_).mono ?_) | fail); (focus (repeat (first | with_reducible exact HC4.out | with_reducible refine cur_drew ?_ | with_reducible refine Cur.alloc ?_ _))); rintro e w5' ⟨X, Y, rfl, X0, X1, Y0, Y1, hc5, ho5⟩; have hS5 : w5'.cell? ⟨w2.heap.size, 3, none⟩ = some (.slice (some ⟨gr, 0, none⟩) L.length cr) := keepB1 ho5 (by repeat (first | with_reducible exact HS0.out | with_reducible refine keepE1 ?_ | with_reducible refine keepD1 ?_)) hzb; have S7 := Lib.hid (HSN1.out _ ho5 hc5); obtain ⟨bq, oq, eq_, x0_, x1_, x2_⟩ := (Mem.of_own S7.out.own).row HT0.out; (cases eq_); have fz := S7.out.own.frozenAt 1; have fz2 := S7.out.own.frozenAt 2; (rw [Nat.zero_mul, Nat.zero_add] at x1_ x2_); have hgl := (S7.out.own.lt gr rfl).2))
          all_goals
            have HSM := Lib.hid (show smRw ⟨t0.c, ⟨X, Y⟩⟩ from ⟨(HB.out t0 (List.mem_of_getElem? HT0.out)).1, (HB.out t0 (List.mem_of_getElem? HT0.out)).2.1, show -1 ≤ X by omega, show X ≤ 1281 by omega, show -1 ≤ Y by omega, show Y ≤ 673 by omega⟩)
            have S9 := Lib.hid (S7.out.putT HT0.out X Y hlt0)
            clear S7 x0_ x1_ x2_ fz fz2 hS5 ho5
            generalize ((w5'.setCell ⟨gr, 1, none⟩ (.int .i64 X)).setCell ⟨gr, 2, none⟩ (.int .i64 Y)) = W9 at *
            obtain ⟨c0, c1, c2, c3, f0, f1, f2, f3, hl'⟩ := S9.out.cells
            obtain ⟨z0, z1, z2, z3, v0_, v1_, v2_, v3_, hl2⟩ := S9.out.zcells
            go_wp2_with fail
            obtain ⟨o1, o2, o3, o4⟩ := S9.out.out2 List.length_set (by omega) (Nat.le_refl _)
            have HO1 := Lib.hid o1
            have HO2 := Lib.hid o2
            have HO3 := Lib.hid o3
            have HO4 := Lib.hid o4
            clear o1 o2 o3 o4 c0 c1 c2 c3 f0 f1 f2 f3 z0 z1 z2 z3 v0_ v1_ v2_ v3_ S9
            generalize ((((W9.setCell ⟨w.heap.size, 0, none⟩ (.int .i64 p)).setCell ⟨w.heap.size, 1, none⟩ (.int .i64 x)).setCell ⟨w.heap.size, 2, none⟩ (.int .i64 y)).setCell ⟨w.heap.size, 3, none⟩ (.slice (some ⟨gr, 0, none⟩) L.length cr)) = WF at *
            have C0 : WF.cell? ⟨w.heap.size, 0, none⟩ = some (.int .i64 p) := (HO4.out.cell 0).trans rfl
            have C1 : WF.cell? ⟨w.heap.size, 1, none⟩ = some (.int .i64 x) := (HO4.out.cell 1).trans rfl
            have C2 : WF.cell? ⟨w.heap.size, 2, none⟩ = some (.int .i64 y) := (HO4.out.cell 2).trans rfl
            have C3 : WF.cell? ⟨w.heap.size, 3, none⟩ = some (.slice (some ⟨gr, 0, none⟩) L.length cr) := (HO4.out.cell 3).trans rfl
            refine bodyPost_ret (v := .agg #[.int .i64 p, .int .i64 x, .int .i64 y, .slice (some ⟨gr, 0, none⟩) L.length cr]) (by simp [results, Tryz.results44, go_sem, C0, C1, C2, C3]) rfl ?_
            exact ⟨_, ⟨x, y⟩, some ⟨gr, 0, none⟩, cr, (L.set 0 ⟨t0.c, ⟨X, Y⟩⟩), by rw [List.length_set], by rw [List.length_set]; exact HO1.out, by rw [List.length_set]; exact hl9, smRw_set HB.out HSM.out, HO2.out.mono (by omega), HO3.out⟩
        have e3 : ((r : Int) == 3) = false := beq_eq_false_iff_ne.2 h3
        clear h3 hc6
        obtain ⟨W9, hW9⟩ : ∃ W, W = w6 := ⟨_, rfl⟩
        subst hW9
        obtain ⟨c0, c1, c2, c3, f0, f1, f2, f3, hl'⟩ := S6.out.cells
        obtain ⟨z0, z1, z2, z3, v0_, v1_, v2_, v3_, hl2⟩ := S6.out.zcells
        go_wp2_with fail
        obtain ⟨o1, o2, o3, o4⟩ := S6.out.out (by omega) (Nat.le_refl _)
        have HO1 := Lib.hid o1
        have HO2 := Lib.hid o2
        have HO3 := Lib.hid o3
        have HO4 := Lib.hid o4
        clear o1 o2 o3 o4 c0 c1 c2 c3 f0 f1 f2 f3 z0 z1 z2 z3 v0_ v1_ v2_ v3_ S6
        generalize ((((W9.setCell ⟨w.heap.size, 0, none⟩ (.int .i64 p)).setCell ⟨w.heap.size, 1, none⟩ (.int .i64 x)).setCell ⟨w.heap.size, 2, none⟩ (.int .i64 y)).setCell ⟨w.heap.size, 3, none⟩ (.slice Ar L.length cr)) = WF at *
        have C0 : WF.cell? ⟨w.heap.size, 0, none⟩ = some (.int .i64 p) := (HO4.out.cell 0).trans rfl
        have C1 : WF.cell? ⟨w.heap.size, 1, none⟩ = some (.int .i64 x) := (HO4.out.cell 1).trans rfl
        have C2 : WF.cell? ⟨w.heap.size, 2, none⟩ = some (.int .i64 y) := (HO4.out.cell 2).trans rfl
        have C3 : WF.cell? ⟨w.heap.size, 3, none⟩ = some (.slice Ar L.length cr) := (HO4.out.cell 3).trans rfl
        refine bodyPost_ret (v := .agg #[.int .i64 p, .int .i64 x, .int .i64 y, .slice Ar L.length cr]) (by simp [results, Tryz.results44, go_sem, C0, C1, C2, C3]) rfl ?_
        exact ⟨_, ⟨x, y⟩, Ar, cr, L, rfl, HO1.out, hl9, HB.out, HO2.out.mono (by omega), HO3.out⟩
def code (w : World) (A : Option Addr) (C : List Int) : Prop := Mem w A (bytes C) ∧ (∀ x ∈ C, 0 ≤ x ∧ x ≤ 255) ∧ C.length ≤ 9223372036854775807
theorem code.below {w w' : World} {A : Option Addr} {C : List Int} (h : code w A C) (hb : Below w.heap.size w w') : code w' A C := ⟨h.1.below hb, h.2⟩
theorem code.cur {w : World} {A : Option Addr} {c : Nat} {C : List Int} (h : code w A C) : Cur (w.alloc (.cells #[.slice A C.length c, .int .i64 0, .int .u64 0] 74)) w.heap.size 0 := Cur.new h.1 h.2.1 h.2.2
/-- A sheet is drawn, in memory of the call's own. -/
def Dr1 (w : World) (e : Ending) (w' : World) : Prop :=
  ∃ (p : Int) (s : Sp) (A : Option Addr) (c : Nat) (L : List Rw), e = .returned (.agg #[.int .i64 p, .int .i64 s.x, .int .i64 s.y, .slice A L.length c]) ∧ w'.ownsRow w.heap.size 46 3 (.slice A L.length c) L.length (rows L) ∧ L.length ≤ 9 ∧ (∀ r ∈ L, smRw r) ∧ Below w.heap.size w w'
theorem put4 {w w' : World} {z n c : Nat} {p x y : Int} {A : Option Addr} {L : List Rw} (hz : Blk w' z #[.int .i64 0, .int .i64 0, .int .i64 0, .slice none 0 0] 28) (ho : w'.ownsRow w.heap.size 46 3 (.slice A n c) n (rows L)) (hn : (Value.slice A n c).ownBlock ≠ some z) (hb : Below w.heap.size w w') (hw : w.heap.size ≤ z) :
    ((((w'.setCell ⟨z, 0, none⟩ (.int .i64 p)).setCell ⟨z, 1, none⟩ (.int .i64 x)).setCell ⟨z, 2, none⟩ (.int .i64 y)).setCell ⟨z, 3, none⟩ (.slice A n c)).ownsRow w.heap.size 46 3 (.slice A n c) n (rows L) ∧
    Below w.heap.size w ((((w'.setCell ⟨z, 0, none⟩ (.int .i64 p)).setCell ⟨z, 1, none⟩ (.int .i64 x)).setCell ⟨z, 2, none⟩ (.int .i64 y)).setCell ⟨z, 3, none⟩ (.slice A n c)) ∧
    Blk ((((w'.setCell ⟨z, 0, none⟩ (.int .i64 p)).setCell ⟨z, 1, none⟩ (.int .i64 x)).setCell ⟨z, 2, none⟩ (.int .i64 y)).setCell ⟨z, 3, none⟩ (.slice A n c)) z #[.int .i64 p, .int .i64 x, .int .i64 y, .slice A n c] 28 :=
  ⟨ownsRow_setCell_other (ownsRow_setCell_other (ownsRow_setCell_other (ownsRow_setCell_other ho hn _) hn _) hn _) hn _, (((hb.setCell hw _).setCell hw _).setCell hw _).setCell hw _, (((hz.set 0 _).set 1 _).set 2 _).set 3 _⟩
set_option maxRecDepth 100000 in
theorem drawIsSheet_any (A : Option Addr) (c : Nat) (C : List Int) (w : World) (h : code w A C) : Calls Tryz.prog 26 #[.slice A C.length c] w (Dr1 w) := by
  have hz1 : (w.alloc (.cells #[.int .i64 0, .int .i64 0, .int .i64 0, .slice none 0 0] 28)).heap.size = w.heap.size + 1 := by simp
  have HC := code.cur (c := c) (h.below (below_alloc w (.cells #[.int .i64 0, .int .i64 0, .int .i64 0, .slice none 0 0] 28)))
  rw [hz1] at HC
  have HZ := Lib.hid ((Blk.new w #[.int .i64 0, .int .i64 0, .int .i64 0, .slice none 0 0] 28).alloc (.cells #[.slice A C.length c, .int .i64 0, .int .u64 0] 74))
  have HB := Lib.hid ((below_alloc w (.cells #[.int .i64 0, .int .i64 0, .int .i64 0, .slice none 0 0] 28)).trans ((below_alloc _ (.cells #[.slice A C.length c, .int .i64 0, .int .u64 0] 74)).mono (by simp)))
  have HC := Lib.hid HC
  clear h hz1
  obtain ⟨W0, hW0⟩ : ∃ x, (w.alloc (.cells #[.int .i64 0, .int .i64 0, .int .i64 0, .slice none 0 0] 28)).alloc (.cells #[.slice A C.length c, .int .i64 0, .int .u64 0] 74) = x := ⟨_, rfl⟩
  have hlt : w.heap.size + 1 < W0.heap.size := by rw [← hW0]; simp
  go_enter Tryz.func26, Tryz.ntmps26
  go_wp2_with fail
  (try rw [hW0] at HC)
  (try rw [hW0] at HB)
  (try rw [hW0] at HZ)
  (try rw [hW0])
  refine (sheet_any (w.heap.size + 1) 0 _ HC.out (by omega)).mono ?_
  rintro e w1 ⟨p, s, A1, c1, L, rfl, hown, hl, hsm, _, ho⟩
  have hZ1 := ho.blk HZ.out (by omega)
  have hne : (Value.slice A1 L.length c1).ownBlock ≠ some w.heap.size := fun e => by have := (hown.lt _ e).1; omega
  have hb1 := HB.out.trans (ho.below (B := w.heap.size) (by omega) (by omega))
  obtain ⟨o1, o2, o3⟩ := put4 (p := p) (x := s.x) (y := s.y) hZ1 (own_base hown (by omega)) hne hb1 (Nat.le_refl _)
  have O1 := Lib.hid o1
  have O2 := Lib.hid o2
  have O3 := Lib.hid o3
  have SM := Lib.hid hsm
  have z0 : w1.cell? ⟨w.heap.size, 0, none⟩ = some (.int .i64 0) := hZ1.cell 0
  have z1 : w1.cell? ⟨w.heap.size, 1, none⟩ = some (.int .i64 0) := hZ1.cell 1
  have z2 : w1.cell? ⟨w.heap.size, 2, none⟩ = some (.int .i64 0) := hZ1.cell 2
  have z3 : w1.cell? ⟨w.heap.size, 3, none⟩ = some (.slice none 0 0) := hZ1.cell 3
  have y0 := hZ1.frozen 0
  have y1 := hZ1.frozen 1
  have y2 := hZ1.frozen 2
  have y3 := hZ1.frozen 3
  have hlz := hZ1.lt
  clear o1 o2 o3 hown hsm ho hZ1 hb1 hW0
  go_wp2_with fail
  clear z0 z1 z2 z3 y0 y1 y2 y3
  generalize ((((w1.setCell ⟨w.heap.size, 0, none⟩ (.int .i64 p)).setCell ⟨w.heap.size, 1, none⟩ (.int .i64 s.x)).setCell ⟨w.heap.size, 2, none⟩ (.int .i64 s.y)).setCell ⟨w.heap.size, 3, none⟩ (.slice A1 L.length c1)) = WF at *
  have C0 : WF.cell? ⟨w.heap.size, 0, none⟩ = some (.int .i64 p) := (O3.out.cell 0).trans rfl
  have C1 : WF.cell? ⟨w.heap.size, 1, none⟩ = some (.int .i64 s.x) := (O3.out.cell 1).trans rfl
  have C2 : WF.cell? ⟨w.heap.size, 2, none⟩ = some (.int .i64 s.y) := (O3.out.cell 2).trans rfl
  have C3 : WF.cell? ⟨w.heap.size, 3, none⟩ = some (.slice A1 L.length c1) := (O3.out.cell 3).trans rfl
  refine bodyPost_ret (v := .agg #[.int .i64 p, .int .i64 s.x, .int .i64 s.y, .slice A1 L.length c1]) (by simp [results, Tryz.results26, go_sem, C0, C1, C2, C3]) rfl ?_
  exact ⟨p, s, A1, c1, L, rfl, O1.out, hl, SM.out, O2.out⟩
set_option maxRecDepth 100000 in
theorem drawSheetText_any (A : Option Addr) (c : Nat) (C : List Int) (w : World) (h : code w A C) : Calls Tryz.prog 5 #[.slice A C.length c] w (Dr1 w) := by
  have HZ := Lib.hid (Blk.new w #[.int .i64 0, .int .i64 0, .int .i64 0, .slice none 0 0] 28)
  have HB := Lib.hid (below_alloc w (.cells #[.int .i64 0, .int .i64 0, .int .i64 0, .slice none 0 0] 28))
  have HC := Lib.hid (h.below (below_alloc w (.cells #[.int .i64 0, .int .i64 0, .int .i64 0, .slice none 0 0] 28)))
  clear h
  have hlt : w.heap.size < (w.alloc (.cells #[.int .i64 0, .int .i64 0, .int .i64 0, .slice none 0 0] 28)).heap.size := by simp
  go_enter Tryz.func5, Tryz.ntmps5
  go_wp2_with fail
  refine (drawIsSheet_any _ _ _ _ HC.out).mono ?_
  rintro e w1 ⟨p, s, A1, c1, L, rfl, hown, hl, hsm, ho⟩
  have hZ1 := HZ.out.below ho hlt
  have hne : (Value.slice A1 L.length c1).ownBlock ≠ some w.heap.size := fun e => by have := (hown.lt _ e).1; omega
  have hb1 := HB.out.trans (ho.mono (Nat.le_of_lt hlt))
  obtain ⟨o1, o2, o3⟩ := put4 (p := p) (x := s.x) (y := s.y) hZ1 (own_base hown (Nat.le_of_lt hlt)) hne hb1 (Nat.le_refl _)
  have O1 := Lib.hid o1
  have O2 := Lib.hid o2
  have O3 := Lib.hid o3
  have SM := Lib.hid hsm
  have z0 : w1.cell? ⟨w.heap.size, 0, none⟩ = some (.int .i64 0) := hZ1.cell 0
  have z1 : w1.cell? ⟨w.heap.size, 1, none⟩ = some (.int .i64 0) := hZ1.cell 1
  have z2 : w1.cell? ⟨w.heap.size, 2, none⟩ = some (.int .i64 0) := hZ1.cell 2
  have z3 : w1.cell? ⟨w.heap.size, 3, none⟩ = some (.slice none 0 0) := hZ1.cell 3
  have y0 := hZ1.frozen 0
  have y1 := hZ1.frozen 1
  have y2 := hZ1.frozen 2
  have y3 := hZ1.frozen 3
  have hlz := hZ1.lt
  clear o1 o2 o3 hown hsm ho hZ1 hb1 hlt HZ HB HC
  go_wp2_with fail
  clear z0 z1 z2 z3 y0 y1 y2 y3
  generalize ((((w1.setCell ⟨w.heap.size, 0, none⟩ (.int .i64 p)).setCell ⟨w.heap.size, 1, none⟩ (.int .i64 s.x)).setCell ⟨w.heap.size, 2, none⟩ (.int .i64 s.y)).setCell ⟨w.heap.size, 3, none⟩ (.slice A1 L.length c1)) = WF at *
  have C0 : WF.cell? ⟨w.heap.size, 0, none⟩ = some (.int .i64 p) := (O3.out.cell 0).trans rfl
  have C1 : WF.cell? ⟨w.heap.size, 1, none⟩ = some (.int .i64 s.x) := (O3.out.cell 1).trans rfl
  have C2 : WF.cell? ⟨w.heap.size, 2, none⟩ = some (.int .i64 s.y) := (O3.out.cell 2).trans rfl
  have C3 : WF.cell? ⟨w.heap.size, 3, none⟩ = some (.slice A1 L.length c1) := (O3.out.cell 3).trans rfl
  refine bodyPost_ret (v := .agg #[.int .i64 p, .int .i64 s.x, .int .i64 s.y, .slice A1 L.length c1]) (by simp [results, Tryz.results5, go_sem, C0, C1, C2, C3]) rfl ?_
  exact ⟨p, s, A1, c1, L, rfl, O1.out, hl, SM.out, O2.out⟩
end Go.Proofs.YtdmgffcabjpihaaGreatDoor
