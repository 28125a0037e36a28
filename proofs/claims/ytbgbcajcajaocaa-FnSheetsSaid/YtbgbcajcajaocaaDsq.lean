/-
  Draws: what SheetOf and LeadsTo are asked.
-/
import Derived.Test.YtbgbcajcajaocaaDca
import Derived.Test.YtbgbcajcajaocaaDsh
import Derived.Test.YtbgbcajcajaocaaDrf
namespace Go.Proofs.Ytbgbcajcajaocaa
open Go.RowKit

def DrS (w : World) (e : Ending) (w' : World) : Prop :=
  ∃ n A c hs B d C p, e = .returned (.tuple #[.slice A n c, .slice B C.length d, .int .i64 p]) ∧ CI w' w.heap.size (.slice A n c) n hs (.slice B C.length d) C ∧ n ≤ 12 ∧ (∀ (q : Nat) (h : Hdr Sp), hs[q]? = some h → h.L.length ≤ 13) ∧ C.length ≤ 12 ∧ Below w.heap.size w w'
set_option maxRecDepth 100000 in
theorem drawSheetOf_any (A : Option Addr) (c : Nat) (C : List Int) (w : World) (h : code w A C) : Calls Try.prog 27 #[.slice A C.length c] w (DrS w) := by
  have HC := Lib.hid (code.cur (c := c) h)
  have HB := Lib.hid ((Below.refl w.heap.size w).alloc (Nat.le_refl _) (.cells #[.slice A C.length c, .int .i64 0, .int .u64 0] 88))
  clear h
  obtain ⟨W0, hW0⟩ : ∃ x, w.alloc (.cells #[.slice A C.length c, .int .i64 0, .int .u64 0] 88) = x := ⟨_, rfl⟩
  have hlt : w.heap.size < W0.heap.size := by rw [← hW0]; simp
  go_enter Try.func27, Try.ntmps27
  go_wp2_with fail
  (try rw [hW0] at HC)
  (try rw [hW0] at HB)
  (try rw [hW0])
  refine (chartsAll_any w.heap.size 0 _ HC.out (by omega)).mono ?_
  rintro e w1 ⟨n, vo, hs, vi, D, rfl, hci, hn, hln, hd, hc1, ho1⟩
  obtain ⟨A1, c1, rfl⟩ := own_form hci.own
  obtain ⟨B1, d1, rfl⟩ := own_form hci.ints_
  have X1 := Lib.hid hci
  have O1 := Lib.hid ho1
  have LN := Lib.hid hln
  have C1 := Lib.hid hc1
  clear hci hln ho1 hW0
  rcases Nat.eq_zero_or_pos n with h0 | h0
  · subst h0
    clear hc1
    go_wp2_with fail
    go_ret3
    exact ⟨0, A1, c1, hs, B1, d1, D, 0, rfl, X1.out.base_ (by omega), by omega, LN.out, hd, HB.out.trans (O1.out.below (Nat.le_refl _) (by omega))⟩
  · obtain ⟨x, hx⟩ := some_of_lt (L := hs) (k := 0) (by rw [X1.out.len]; exact h0)
    obtain ⟨b, off, rfl, g1⟩ := hdr_cell X1.out.grid.mem hx
    rw [Nat.add_zero] at g1
    have hxl := LN.out 0 x hx
    have h0' : (0 : Int) < (n : Int) := by omega
    clear hx
    go_wp2_with fail
    refine (performer_any w.heap.size 80000 x.A x.c x.L.length _ (C1.out.mono (by omega)) (by omega) (by omega)).mono ?_
    rintro e w2 ⟨p, rfl, _, _, _, ho2⟩
    have X2 := Lib.hid (X1.out.oth ho2 hlt)
    have O2 := Lib.hid (O1.out.trans ho2)
    clear ho2 g1 hc1
    go_wp2_with fail
    go_ret3
    exact ⟨n, _, c1, hs, B1, d1, D, p, rfl, X2.out.base_ (by omega), hn, LN.out, hd, HB.out.trans (O2.out.below (Nat.le_refl _) (by omega))⟩
/-- A sheet is drawn, in memory of the call's own. -/
def Dr1 (w : World) (e : Ending) (w' : World) : Prop :=
  ∃ (p : Int) (s : Sp) (A : Option Addr) (c : Nat) (L : List Rw), e = .returned (.agg #[.int .i64 p, .int .i64 s.x, .int .i64 s.y, .slice A L.length c]) ∧ w'.ownsRow w.heap.size 83 3 (.slice A L.length c) L.length (rows L) ∧ L.length ≤ 9 ∧ (∀ r ∈ L, smRw r) ∧ Below w.heap.size w w'
theorem put4 {w w' : World} {z n c : Nat} {p x y : Int} {A : Option Addr} {L : List Rw} (hz : Blk w' z #[.int .i64 0, .int .i64 0, .int .i64 0, .slice none 0 0] 29) (ho : w'.ownsRow w.heap.size 83 3 (.slice A n c) n (rows L)) (hn : (Value.slice A n c).ownBlock ≠ some z) (hb : Below w.heap.size w w') (hw : w.heap.size ≤ z) :
    ((((w'.setCell ⟨z, 0, none⟩ (.int .i64 p)).setCell ⟨z, 1, none⟩ (.int .i64 x)).setCell ⟨z, 2, none⟩ (.int .i64 y)).setCell ⟨z, 3, none⟩ (.slice A n c)).ownsRow w.heap.size 83 3 (.slice A n c) n (rows L) ∧
    Below w.heap.size w ((((w'.setCell ⟨z, 0, none⟩ (.int .i64 p)).setCell ⟨z, 1, none⟩ (.int .i64 x)).setCell ⟨z, 2, none⟩ (.int .i64 y)).setCell ⟨z, 3, none⟩ (.slice A n c)) ∧
    Blk ((((w'.setCell ⟨z, 0, none⟩ (.int .i64 p)).setCell ⟨z, 1, none⟩ (.int .i64 x)).setCell ⟨z, 2, none⟩ (.int .i64 y)).setCell ⟨z, 3, none⟩ (.slice A n c)) z #[.int .i64 p, .int .i64 x, .int .i64 y, .slice A n c] 29 :=
  ⟨ownsRow_setCell_other (ownsRow_setCell_other (ownsRow_setCell_other (ownsRow_setCell_other ho hn _) hn _) hn _) hn _, (((hb.setCell hw _).setCell hw _).setCell hw _).setCell hw _, (((hz.set 0 _).set 1 _).set 2 _).set 3 _⟩
set_option maxRecDepth 100000 in
theorem drawIsSheet_any (A : Option Addr) (c : Nat) (C : List Int) (w : World) (h : code w A C) : Calls Try.prog 71 #[.slice A C.length c] w (Dr1 w) := by
  have hz1 : (w.alloc (.cells #[.int .i64 0, .int .i64 0, .int .i64 0, .slice none 0 0] 29)).heap.size = w.heap.size + 1 := by simp
  have HC := code.cur (c := c) (h.below (below_alloc w (.cells #[.int .i64 0, .int .i64 0, .int .i64 0, .slice none 0 0] 29)))
  rw [hz1] at HC
  have HZ := Lib.hid ((Blk.new w #[.int .i64 0, .int .i64 0, .int .i64 0, .slice none 0 0] 29).alloc (.cells #[.slice A C.length c, .int .i64 0, .int .u64 0] 88))
  have HB := Lib.hid ((below_alloc w (.cells #[.int .i64 0, .int .i64 0, .int .i64 0, .slice none 0 0] 29)).trans ((below_alloc _ (.cells #[.slice A C.length c, .int .i64 0, .int .u64 0] 88)).mono (by simp)))
  have HC := Lib.hid HC
  clear h hz1
  obtain ⟨W0, hW0⟩ : ∃ x, (w.alloc (.cells #[.int .i64 0, .int .i64 0, .int .i64 0, .slice none 0 0] 29)).alloc (.cells #[.slice A C.length c, .int .i64 0, .int .u64 0] 88) = x := ⟨_, rfl⟩
  have hlt : w.heap.size + 1 < W0.heap.size := by rw [← hW0]; simp
  go_enter Try.func71, Try.ntmps71
  go_wp2_with fail
  (try rw [hW0] at HC)
  (try rw [hW0] at HB)
  (try rw [hW0] at HZ)
  (try rw [hW0])
  refine (sheet_any (w.heap.size + 1) 0 _ HC.out (by omega)).mono ?_
  rintro e w1 ⟨p, s, A1, c1, L, rfl, hown, hl, hsm, _, ho⟩
  have hZ1 := ho.blk HZ.out (by omega)
  have hne : (Value.slice A1 L.length c1).ownBlock ≠ some w.heap.size := fun e => by have := (hown.lt _ e).1; omega
  have hb1 := HB.out.trans (ho.below (B := w.heap.size) (by omega) (by omega))
  obtain ⟨o1, o2, o3⟩ := put4 (p := p) (x := s.x) (y := s.y) hZ1 (own_base hown (by omega)) hne hb1 (Nat.le_refl _)
  have O1 := Lib.hid o1
  have O2 := Lib.hid o2
  have O3 := Lib.hid o3
  have SM := Lib.hid hsm
  have z0 : w1.cell? ⟨w.heap.size, 0, none⟩ = some (.int .i64 0) := hZ1.cell 0
  have z1 : w1.cell? ⟨w.heap.size, 1, none⟩ = some (.int .i64 0) := hZ1.cell 1
  have z2 : w1.cell? ⟨w.heap.size, 2, none⟩ = some (.int .i64 0) := hZ1.cell 2
  have z3 : w1.cell? ⟨w.heap.size, 3, none⟩ = some (.slice none 0 0) := hZ1.cell 3
  have y0 := hZ1.frozen 0
  have y1 := hZ1.frozen 1
  have y2 := hZ1.frozen 2
  have y3 := hZ1.frozen 3
  have hlz := hZ1.lt
  clear o1 o2 o3 hown hsm ho hZ1 hb1 hW0
  go_wp2_with fail
  clear z0 z1 z2 z3 y0 y1 y2 y3
  generalize ((((w1.setCell ⟨w.heap.size, 0, none⟩ (.int .i64 p)).setCell ⟨w.heap.size, 1, none⟩ (.int .i64 s.x)).setCell ⟨w.heap.size, 2, none⟩ (.int .i64 s.y)).setCell ⟨w.heap.size, 3, none⟩ (.slice A1 L.length c1)) = WF at *
  have C0 : WF.cell? ⟨w.heap.size, 0, none⟩ = some (.int .i64 p) := (O3.out.cell 0).trans rfl
  have C1 : WF.cell? ⟨w.heap.size, 1, none⟩ = some (.int .i64 s.x) := (O3.out.cell 1).trans rfl
  have C2 : WF.cell? ⟨w.heap.size, 2, none⟩ = some (.int .i64 s.y) := (O3.out.cell 2).trans rfl
  have C3 : WF.cell? ⟨w.heap.size, 3, none⟩ = some (.slice A1 L.length c1) := (O3.out.cell 3).trans rfl
  refine bodyPost_ret (v := .agg #[.int .i64 p, .int .i64 s.x, .int .i64 s.y, .slice A1 L.length c1]) (by simp [results, Try.results71, go_sem, C0, C1, C2, C3]) rfl ?_
  exact ⟨p, s, A1, c1, L, rfl, O1.out, hl, SM.out, O2.out⟩
set_option maxRecDepth 100000 in
theorem drawLeadsTo_any (A : Option Addr) (c : Nat) (C : List Int) (w : World) (h : code w A C) : Calls Try.prog 38 #[.slice A C.length c] w (Dr1 w) := by
  have HZ := Lib.hid (Blk.new w #[.int .i64 0, .int .i64 0, .int .i64 0, .slice none 0 0] 29)
  have HB := Lib.hid (below_alloc w (.cells #[.int .i64 0, .int .i64 0, .int .i64 0, .slice none 0 0] 29))
  have HC := Lib.hid (h.below (below_alloc w (.cells #[.int .i64 0, .int .i64 0, .int .i64 0, .slice none 0 0] 29)))
  clear h
  have hlt : w.heap.size < (w.alloc (.cells #[.int .i64 0, .int .i64 0, .int .i64 0, .slice none 0 0] 29)).heap.size := by simp
  go_enter Try.func38, Try.ntmps38
  go_wp2_with fail
  refine (drawIsSheet_any _ _ _ _ HC.out).mono ?_
  rintro e w1 ⟨p, s, A1, c1, L, rfl, hown, hl, hsm, ho⟩
  have hZ1 := HZ.out.below ho hlt
  have hne : (Value.slice A1 L.length c1).ownBlock ≠ some w.heap.size := fun e => by have := (hown.lt _ e).1; omega
  have hb1 := HB.out.trans (ho.mono (Nat.le_of_lt hlt))
  obtain ⟨o1, o2, o3⟩ := put4 (p := p) (x := s.x) (y := s.y) hZ1 (own_base hown (Nat.le_of_lt hlt)) hne hb1 (Nat.le_refl _)
  have O1 := Lib.hid o1
  have O2 := Lib.hid o2
  have O3 := Lib.hid o3
  have SM := Lib.hid hsm
  have z0 : w1.cell? ⟨w.heap.size, 0, none⟩ = some (.int .i64 0) := hZ1.cell 0
  have z1 : w1.cell? ⟨w.heap.size, 1, none⟩ = some (.int .i64 0) := hZ1.cell 1
  have z2 : w1.cell? ⟨w.heap.size, 2, none⟩ = some (.int .i64 0) := hZ1.cell 2
  have z3 : w1.cell? ⟨w.heap.size, 3, none⟩ = some (.slice none 0 0) := hZ1.cell 3
  have y0 := hZ1.frozen 0
  have y1 := hZ1.frozen 1
  have y2 := hZ1.frozen 2
  have y3 := hZ1.frozen 3
  have hlz := hZ1.lt
  clear o1 o2 o3 hown hsm ho hZ1 hb1 hlt HZ HB HC
  go_wp2_with fail
  clear z0 z1 z2 z3 y0 y1 y2 y3
  generalize ((((w1.setCell ⟨w.heap.size, 0, none⟩ (.int .i64 p)).setCell ⟨w.heap.size, 1, none⟩ (.int .i64 s.x)).setCell ⟨w.heap.size, 2, none⟩ (.int .i64 s.y)).setCell ⟨w.heap.size, 3, none⟩ (.slice A1 L.length c1)) = WF at *
  have C0 : WF.cell? ⟨w.heap.size, 0, none⟩ = some (.int .i64 p) := (O3.out.cell 0).trans rfl
  have C1 : WF.cell? ⟨w.heap.size, 1, none⟩ = some (.int .i64 s.x) := (O3.out.cell 1).trans rfl
  have C2 : WF.cell? ⟨w.heap.size, 2, none⟩ = some (.int .i64 s.y) := (O3.out.cell 2).trans rfl
  have C3 : WF.cell? ⟨w.heap.size, 3, none⟩ = some (.slice A1 L.length c1) := (O3.out.cell 3).trans rfl
  refine bodyPost_ret (v := .agg #[.int .i64 p, .int .i64 s.x, .int .i64 s.y, .slice A1 L.length c1]) (by simp [results, Try.results38, go_sem, C0, C1, C2, C3]) rfl ?_
  exact ⟨p, s, A1, c1, L, rfl, O1.out, hl, SM.out, O2.out⟩
end Go.Proofs.Ytbgbcajcajaocaa
