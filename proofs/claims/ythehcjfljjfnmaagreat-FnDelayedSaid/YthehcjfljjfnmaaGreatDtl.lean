/-
  Draws: what CloseDelayed, IsRepair and StandingAt are asked.
-/
import Derived.Test.YthehcjfljjfnmaaGreatDtk
namespace Go.Proofs.YthehcjfljjfnmaaGreat
open Go.RowKit

/-- A transition, delays and a number are drawn. -/
def DrCd (lo hi : Int) (w : World) (e : Ending) (w' : World) : Prop :=
  ∃ A c F B d T n C f P E o D L, e = .returned (.tuple #[.agg #[.slice A F.length c, .slice B T.length d, .int .i64 n, .slice C P.length f], .slice E D.length o, .int .i64 L]) ∧ ownF w w' A c F ∧ ownF w w' B d T ∧ ownP w w' C f P ∧ (0 ≤ n ∧ n ≤ 65) ∧ MemO w' w.heap.size E (ints D) ∧ okDel D ∧ D.length ≤ o ∧ (lo ≤ L ∧ L ≤ hi) ∧ Below w.heap.size w w'
abbrev Q4 (w : World) (b : Nat) (v0 v1 v2 v3 : Value) : Prop := w.cell? ⟨b, 0, none⟩ = some v0 ∧ w.cell? ⟨b, 1, none⟩ = some v1 ∧ w.cell? ⟨b, 2, none⟩ = some v2 ∧ w.cell? ⟨b, 3, none⟩ = some v3
section
variable {w : World} {b : Nat} {v0 v1 v2 v3 : Value}
theorem Q4.drew (h : Q4 w b v0 v1 v2 v3) : Q4 w.drew b v0 v1 v2 v3 := h
theorem Q4.alloc {o : Obj} (h : Q4 w b v0 v1 v2 v3) : Q4 (w.alloc o) b v0 v1 v2 v3 := ⟨keep1 (below_alloc _ _) h.1, keep1 (below_alloc _ _) h.2.1, keep1 (below_alloc _ _) h.2.2.1, keep1 (below_alloc _ _) h.2.2.2⟩
theorem Q4.blk {t : TypeId} (h : Blk w b #[v0, v1, v2, v3] t) : Q4 w b v0 v1 v2 v3 := ⟨h.cell 0, h.cell 1, h.cell 2, h.cell 3⟩
theorem Q4.put {q : Nat} {x0 x1 x2 x3 : Value} (hne : q ≠ b) (h : Q4 w b v0 v1 v2 v3) : Q4 ((((w.setCell ⟨q, 0, none⟩ x0).setCell ⟨q, 1, none⟩ x1).setCell ⟨q, 2, none⟩ x2).setCell ⟨q, 3, none⟩ x3) b v0 v1 v2 v3 :=
  ⟨keepF (keepF (keepF (keepF h.1 hne) hne) hne) hne, keepF (keepF (keepF (keepF h.2.1 hne) hne) hne) hne, keepF (keepF (keepF (keepF h.2.2.1 hne) hne) hne) hne, keepF (keepF (keepF (keepF h.2.2.2 hne) hne) hne) hne⟩
end
theorem MemO.set {w : World} {base : Nat} {A : Option Addr} {xs : List Value} {p : Addr} (h : MemO w base A xs) (hb : p.block < base) (u : Value) : MemO (w.setCell p u) base A xs :=
  h.oth (g := p.block) ((Oth.refl p.block w).set (.inl rfl) u) hb

set_option maxHeartbeats 12800000 in
set_option maxRecDepth 100000 in
theorem drawCloseDelayed_any (A0 : Option Addr) (c0 : Nat) (L0 : List Int) (w : World) (h : code w A0 L0) : Calls Tryz.prog 35 #[.slice A0 L0.length c0] w (DrCd (-1) 81 w) := by
  have hz1 : (w.alloc (.cells #[.slice none 0 0, .slice none 0 0, .int .i64 0, .slice none 0 0] 34)).heap.size = w.heap.size + 1 := by simp
  have HC := code.cur (c := c0) (h.below (below_alloc w (.cells #[.slice none 0 0, .slice none 0 0, .int .i64 0, .slice none 0 0] 34)))
  rw [hz1] at HC
  have HZ := Lib.hid ((Blk.new w #[.slice none 0 0, .slice none 0 0, .int .i64 0, .slice none 0 0] 34).alloc (.cells #[.slice A0 L0.length c0, .int .i64 0, .int .u64 0] 57))
  have HB := Lib.hid ((below_alloc w (.cells #[.slice none 0 0, .slice none 0 0, .int .i64 0, .slice none 0 0] 34)).trans ((below_alloc _ (.cells #[.slice A0 L0.length c0, .int .i64 0, .int .u64 0] 57)).mono (by simp)))
  have HC := Lib.hid HC
  clear h hz1
  go_enter Tryz.func35, Tryz.ntmps35
  go_wp2_with fail
  generalize (w.alloc (.cells #[.slice none 0 0, .slice none 0 0, .int .i64 0, .slice none 0 0] 34)).alloc (.cells #[.slice A0 L0.length c0, .int .i64 0, .int .u64 0] 57) = W0 at *
  have hlt := HC.out.lt
  have hz0 : w.heap.size < W0.heap.size := by omega
  refine (repaired_any (w.heap.size + 1) 0 _ HC.out (by omega)).mono ?_
  rintro e w1 ⟨A, c, F, B, d, T, n, C, f, P, rfl, hf1, ht1, hp1, hn1, hc1, ho1⟩
  have hl1 := hc1.lt
  have F1 := Lib.hid hf1
  have T1 := Lib.hid ht1
  have P1 := Lib.hid hp1
  have C1 := Lib.hid (hc1.mono (k' := 60000) (by omega))
  have O1 := Lib.hid ho1
  have hfl := hf1.1
  have hW1 : W0.heap.size ≤ w1.heap.size := ho1.size
  clear hf1 ht1 hp1 hc1 ho1 HC
  have BX := Lib.hid (Blk.new w1 #[.slice A F.length c, .slice B T.length d, .int .i64 n, .slice C P.length f] 34)
  have F2 := Lib.hid (F1.out.below (below_alloc w1 (.cells #[.slice A F.length c, .slice B T.length d, .int .i64 n, .slice C P.length f] 34)))
  have T2 := Lib.hid (T1.out.below (below_alloc w1 (.cells #[.slice A F.length c, .slice B T.length d, .int .i64 n, .slice C P.length f] 34)))
  have P2 := Lib.hid (P1.out.below (below_alloc w1 (.cells #[.slice A F.length c, .slice B T.length d, .int .i64 n, .slice C P.length f] 34)))
  have C2 := Lib.hid (C1.out.alloc (.cells #[.slice A F.length c, .slice B T.length d, .int .i64 n, .slice C P.length f] 34))
  have O2 := Lib.hid (O1.out.alloc (.cells #[.slice A F.length c, .slice B T.length d, .int .i64 n, .slice C P.length f] 34))
  clear F1 T1 P1 C1 O1
  go_upto_region 3 with (fail)
  obtain ⟨b, hb⟩ : ∃ b, w1.heap.size = b := ⟨_, rfl⟩
  have hzb : w.heap.size ≠ b := by omega
  have hgb : b ≠ w.heap.size + 1 := by omega
  rw [hb] at BX ⊢
  have hgw : w.heap.size + 1 < (w1.alloc (.cells #[.slice A F.length c, .slice B T.length d, .int .i64 n, .slice C P.length f] 34)).heap.size := by simp; omega
  generalize (w1.alloc (.cells #[.slice A F.length c, .slice B T.length d, .int .i64 n, .slice C P.length f] 34)) = w2 at BX F2 T2 P2 C2 O2 hgw ⊢
  clear hb hl1 hW1
  have CS := Lib.hid (Q4.blk BX.out)
  have CJ1 := Lib.hid (fun (w' : World) (h : Cur w' (w.heap.size + 1) 60000) => delaysFor_any (w.heap.size + 1) 60000 F.length w' h (by omega) (by omega))
  have CJ2 := Lib.hid (fun (w' : World) (h : Cur w' (w.heap.size + 1) 60200) => leastDistance_any (w.heap.size + 1) 60200 w' h (by omega))
  go_wp2_with fail
  go_region_held3 (fun wx => wx.cell? ⟨b, 0, none⟩ = some (.slice A F.length c) ∧ wx.cell? ⟨b, 1, none⟩ = some (.slice B T.length d) ∧ wx.cell? ⟨b, 2, none⟩ = some (.int .i64 n) ∧ wx.cell? ⟨b, 3, none⟩ = some (.slice C P.length f))
    (repeat (first | with_reducible exact CS.out | with_reducible exact hS6 | with_reducible exact hS5 | with_reducible refine Q4.drew ?_ | with_reducible refine Q4.alloc ?_ | with_reducible refine Q4.put hzb ?_))
    (first
      | (go_at_call 65; (first | (refine (CJ2.out _ ?_).mono ?_) | fail); (focus ((repeat (first | with_reducible exact hc5 | with_reducible refine curD ?_ | with_reducible refine Cur.alloc ?_ _)); done)); rintro e w6 ⟨L, rfl, l0, l1, hc6, ho6⟩; have hS6 : w6.cell? ⟨b, 0, none⟩ = some (.slice A F.length c) ∧ w6.cell? ⟨b, 1, none⟩ = some (.slice B T.length d) ∧ w6.cell? ⟨b, 2, none⟩ = some (.int .i64 n) ∧ w6.cell? ⟨b, 3, none⟩ = some (.slice C P.length f) := Q4.blk (ho6.blk BX5 hgb); have Z6 := ho6.blk Z5 (show w.heap.size ≠ w.heap.size + 1 by omega); (have z0 := Z6.cell 0); (have z1 := Z6.cell 1); (have z2 := Z6.cell 2); (have z3 := Z6.cell 3); (try simp only [List.getElem?_toArray, List.getElem?_cons_zero, List.getElem?_cons_succ] at z0 z1 z2 z3); have y0 := Z6.frozen 0; have y1 := Z6.frozen 1; have y2 := Z6.frozen 2; have y3 := Z6.frozen 3)
      | (go_at_call 64; (first | (refine (CJ1.out _ ?_).mono ?_) | fail); (focus ((repeat (first | with_reducible exact C2.out | with_reducible refine curD ?_ | with_reducible refine Cur.alloc ?_ _)); done)); rintro e w5 ⟨E, o, D, rfl, hm5, hd5, hdo, hc5, ho5⟩; have BX5 : Blk w5 b #[.slice A F.length c, .slice B T.length d, .int .i64 n, .slice C P.length f] 34 := ho5.blk (Blk.drew BX.out) hgb; have hS5 : w5.cell? ⟨b, 0, none⟩ = some (.slice A F.length c) ∧ w5.cell? ⟨b, 1, none⟩ = some (.slice B T.length d) ∧ w5.cell? ⟨b, 2, none⟩ = some (.int .i64 n) ∧ w5.cell? ⟨b, 3, none⟩ = some (.slice C P.length f) := Q4.blk BX5; have Z5 : Blk w5 w.heap.size #[.slice none 0 0, .slice none 0 0, .int .i64 0, .slice none 0 0] 34 := ho5.blk (Blk.drew (O2.out.blk HZ.out (by omega))) (by omega)))
  all_goals
    rename_i hHeld
    clear hHeld CS hS5 hS6 z0 z1 z2 z3 y0 y1 y2 y3 CJ1 CJ2
    have hgW : w.heap.size + 1 < W0.heap.size := hlt
    have F6 := Lib.hid (ownF.base ((((((ownF.oth (w' := w2.drew) (show ownF W0 w2.drew A c F from F2.out) ho5 hgW).oth ho6 hgW).set (p := ⟨w.heap.size, 0, none⟩) (.inl hz0) (.slice A F.length c)).set (p := ⟨w.heap.size, 1, none⟩) (.inl hz0) (.slice B T.length d)).set (p := ⟨w.heap.size, 2, none⟩) (.inl hz0) (.int .i64 n)).set (p := ⟨w.heap.size, 3, none⟩) (.inl hz0) (.slice C P.length f)) (Nat.le_of_lt hz0))
    have T6 := Lib.hid (ownF.base ((((((ownF.oth (w' := w2.drew) (show ownF W0 w2.drew B d T from T2.out) ho5 hgW).oth ho6 hgW).set (p := ⟨w.heap.size, 0, none⟩) (.inl hz0) (.slice A F.length c)).set (p := ⟨w.heap.size, 1, none⟩) (.inl hz0) (.slice B T.length d)).set (p := ⟨w.heap.size, 2, none⟩) (.inl hz0) (.int .i64 n)).set (p := ⟨w.heap.size, 3, none⟩) (.inl hz0) (.slice C P.length f)) (Nat.le_of_lt hz0))
    have P6 := Lib.hid (ownP.base ((((((ownP.oth (w' := w2.drew) (show ownP W0 w2.drew C f P from P2.out) ho5 hgW).oth ho6 hgW).set (p := ⟨w.heap.size, 0, none⟩) (.inl hz0) (.slice A F.length c)).set (p := ⟨w.heap.size, 1, none⟩) (.inl hz0) (.slice B T.length d)).set (p := ⟨w.heap.size, 2, none⟩) (.inl hz0) (.int .i64 n)).set (p := ⟨w.heap.size, 3, none⟩) (.inl hz0) (.slice C P.length f)) (Nat.le_of_lt hz0))
    have D6 := Lib.hid (MemO.base (((((hm5.oth ho6 hgw).set (p := ⟨w.heap.size, 0, none⟩) (Nat.lt_of_lt_of_le (Nat.lt_succ_self _) (Nat.le_of_lt hgw)) (.slice A F.length c)).set (p := ⟨w.heap.size, 1, none⟩) (Nat.lt_of_lt_of_le (Nat.lt_succ_self _) (Nat.le_of_lt hgw)) (.slice B T.length d)).set (p := ⟨w.heap.size, 2, none⟩) (Nat.lt_of_lt_of_le (Nat.lt_succ_self _) (Nat.le_of_lt hgw)) (.int .i64 n)).set (p := ⟨w.heap.size, 3, none⟩) (Nat.lt_of_lt_of_le (Nat.lt_succ_self _) (Nat.le_of_lt hgw)) (.slice C P.length f)) (Nat.le_trans (Nat.le_of_lt (Nat.lt_succ_self _)) (Nat.le_of_lt hgw)))
    have B6 := Lib.hid (((((HB.out.trans (((O2.out.drew.trans ho5).trans ho6).below (B := w.heap.size) (by omega) (by omega))).setCell (p := ⟨w.heap.size, 0, none⟩) (Nat.le_refl _) (.slice A F.length c)).setCell (p := ⟨w.heap.size, 1, none⟩) (Nat.le_refl _) (.slice B T.length d)).setCell (p := ⟨w.heap.size, 2, none⟩) (Nat.le_refl _) (.int .i64 n)).setCell (p := ⟨w.heap.size, 3, none⟩) (Nat.le_refl _) (.slice C P.length f))
    have G6 := Lib.hid (put4 Z6 (.slice A F.length c) (.slice B T.length d) (.int .i64 n) (.slice C P.length f))
    have HD := Lib.hid hd5
    clear F2 T2 P2 C2 O2 HZ HB BX BX5 Z5 Z6 ho5 ho6 hc5 hc6 hm5 hd5
    generalize ((((w6.setCell ⟨w.heap.size, 0, none⟩ (.slice A F.length c)).setCell ⟨w.heap.size, 1, none⟩ (.slice B T.length d)).setCell ⟨w.heap.size, 2, none⟩ (.int .i64 n)).setCell ⟨w.heap.size, 3, none⟩ (.slice C P.length f)) = WF at F6 T6 P6 D6 B6 G6 ⊢
    have C0 : WF.cell? ⟨w.heap.size, 0, none⟩ = some (.slice A F.length c) := G6.out.cell 0
    have C1 : WF.cell? ⟨w.heap.size, 1, none⟩ = some (.slice B T.length d) := G6.out.cell 1
    have C2 : WF.cell? ⟨w.heap.size, 2, none⟩ = some (.int .i64 n) := G6.out.cell 2
    have C3 : WF.cell? ⟨w.heap.size, 3, none⟩ = some (.slice C P.length f) := G6.out.cell 3
    go_wp2_with fail
    refine bodyPost_ret (v := .tuple #[.agg #[.slice A F.length c, .slice B T.length d, .int .i64 n, .slice C P.length f], .slice E D.length o, .int .i64 L]) (by simp [results, Tryz.results35, go_sem, C0, C1, C2, C3]) rfl ?_
    exact ⟨A, c, F, B, d, T, n, C, f, P, E, o, D, L, rfl, F6.out, T6.out, P6.out, hn1, D6.out, HD.out, hdo, ⟨l0, l1⟩, B6.out⟩

set_option maxHeartbeats 6400000 in
set_option maxRecDepth 100000 in
theorem drawIsRepair_any (A0 : Option Addr) (c0 : Nat) (L0 : List Int) (w : World) (h : code w A0 L0) : Calls Tryz.prog 7 #[.slice A0 L0.length c0] w (DrCd (-1) 81 w) := by
  have HH := Lib.hid (h.below (below_alloc w (.cells #[.slice none 0 0, .slice none 0 0, .int .i64 0, .slice none 0 0] 34)))
  have HZ := Lib.hid (Blk.new w #[.slice none 0 0, .slice none 0 0, .int .i64 0, .slice none 0 0] 34)
  have HB := Lib.hid (below_alloc w (.cells #[.slice none 0 0, .slice none 0 0, .int .i64 0, .slice none 0 0] 34))
  have hz0 : w.heap.size < (w.alloc (.cells #[.slice none 0 0, .slice none 0 0, .int .i64 0, .slice none 0 0] 34)).heap.size := by simp
  clear h
  go_enter Tryz.func7, Tryz.ntmps7
  go_wp2_with fail
  generalize (w.alloc (.cells #[.slice none 0 0, .slice none 0 0, .int .i64 0, .slice none 0 0] 34)) = W0 at *
  refine (drawCloseDelayed_any A0 c0 L0 _ HH.out).mono ?_
  rintro e w6 ⟨A, c, F, B, d, T, n, C, f, P, E, o, D, L, rfl, hf1, ht1, hp1, hn1, hm5, hd5, hdo, hl, hq⟩
  have Z6 := HZ.out.below hq (by omega)
  have F6 := Lib.hid (ownF.base ((((hf1.set (p := ⟨w.heap.size, 0, none⟩) (.inl hz0) (.slice A F.length c)).set (p := ⟨w.heap.size, 1, none⟩) (.inl hz0) (.slice B T.length d)).set (p := ⟨w.heap.size, 2, none⟩) (.inl hz0) (.int .i64 n)).set (p := ⟨w.heap.size, 3, none⟩) (.inl hz0) (.slice C P.length f)) (Nat.le_of_lt hz0))
  have T6 := Lib.hid (ownF.base ((((ht1.set (p := ⟨w.heap.size, 0, none⟩) (.inl hz0) (.slice A F.length c)).set (p := ⟨w.heap.size, 1, none⟩) (.inl hz0) (.slice B T.length d)).set (p := ⟨w.heap.size, 2, none⟩) (.inl hz0) (.int .i64 n)).set (p := ⟨w.heap.size, 3, none⟩) (.inl hz0) (.slice C P.length f)) (Nat.le_of_lt hz0))
  have P6 := Lib.hid (ownP.base ((((hp1.set (p := ⟨w.heap.size, 0, none⟩) (.inl hz0) (.slice A F.length c)).set (p := ⟨w.heap.size, 1, none⟩) (.inl hz0) (.slice B T.length d)).set (p := ⟨w.heap.size, 2, none⟩) (.inl hz0) (.int .i64 n)).set (p := ⟨w.heap.size, 3, none⟩) (.inl hz0) (.slice C P.length f)) (Nat.le_of_lt hz0))
  have D6 := Lib.hid (MemO.base ((((hm5.set (p := ⟨w.heap.size, 0, none⟩) hz0 (.slice A F.length c)).set (p := ⟨w.heap.size, 1, none⟩) hz0 (.slice B T.length d)).set (p := ⟨w.heap.size, 2, none⟩) hz0 (.int .i64 n)).set (p := ⟨w.heap.size, 3, none⟩) hz0 (.slice C P.length f)) (Nat.le_of_lt hz0))
  have B6 := Lib.hid (((((HB.out.trans (hq.mono HB.out.size)).setCell (p := ⟨w.heap.size, 0, none⟩) (Nat.le_refl _) (.slice A F.length c)).setCell (p := ⟨w.heap.size, 1, none⟩) (Nat.le_refl _) (.slice B T.length d)).setCell (p := ⟨w.heap.size, 2, none⟩) (Nat.le_refl _) (.int .i64 n)).setCell (p := ⟨w.heap.size, 3, none⟩) (Nat.le_refl _) (.slice C P.length f))
  have G6 := Lib.hid (put4 Z6 (.slice A F.length c) (.slice B T.length d) (.int .i64 n) (.slice C P.length f))
  have HD := Lib.hid hd5
  have z0 := Z6.cell 0
  have z1 := Z6.cell 1
  have z2 := Z6.cell 2
  have z3 := Z6.cell 3
  simp only [List.getElem?_toArray, List.getElem?_cons_zero, List.getElem?_cons_succ] at z0 z1 z2 z3
  have y0 := Z6.frozen 0
  have y1 := Z6.frozen 1
  have y2 := Z6.frozen 2
  have y3 := Z6.frozen 3
  clear hf1 ht1 hp1 hm5 hd5 hq HZ HB HH Z6
  go_wp2_with fail
  generalize ((((w6.setCell ⟨w.heap.size, 0, none⟩ (.slice A F.length c)).setCell ⟨w.heap.size, 1, none⟩ (.slice B T.length d)).setCell ⟨w.heap.size, 2, none⟩ (.int .i64 n)).setCell ⟨w.heap.size, 3, none⟩ (.slice C P.length f)) = WF at F6 T6 P6 D6 B6 G6 ⊢
  have C0 : WF.cell? ⟨w.heap.size, 0, none⟩ = some (.slice A F.length c) := G6.out.cell 0
  have C1 : WF.cell? ⟨w.heap.size, 1, none⟩ = some (.slice B T.length d) := G6.out.cell 1
  have C2 : WF.cell? ⟨w.heap.size, 2, none⟩ = some (.int .i64 n) := G6.out.cell 2
  have C3 : WF.cell? ⟨w.heap.size, 3, none⟩ = some (.slice C P.length f) := G6.out.cell 3
  refine bodyPost_ret (v := .tuple #[.agg #[.slice A F.length c, .slice B T.length d, .int .i64 n, .slice C P.length f], .slice E D.length o, .int .i64 L]) (by simp [results, Tryz.results7, go_sem, C0, C1, C2, C3]) rfl ?_
  exact ⟨A, c, F, B, d, T, n, C, f, P, E, o, D, L, rfl, F6.out, T6.out, P6.out, hn1, D6.out, HD.out, hdo, hl, B6.out⟩

set_option maxHeartbeats 12800000 in
set_option maxRecDepth 100000 in
theorem drawStandingAt_any (A0 : Option Addr) (c0 : Nat) (L0 : List Int) (w : World) (h : code w A0 L0) : Calls Tryz.prog 15 #[.slice A0 L0.length c0] w (DrCd (-1) 101 w) := by
  have hz1 : (w.alloc (.cells #[.slice none 0 0, .slice none 0 0, .int .i64 0, .slice none 0 0] 34)).heap.size = w.heap.size + 1 := by simp
  have HH := Lib.hid ((h.below (below_alloc w (.cells #[.slice none 0 0, .slice none 0 0, .int .i64 0, .slice none 0 0] 34))).below (below_alloc _ (.cells #[.slice A0 L0.length c0, .int .i64 0, .int .u64 0] 57)))
  have HC := code.cur (c := c0) (h.below (below_alloc w (.cells #[.slice none 0 0, .slice none 0 0, .int .i64 0, .slice none 0 0] 34)))
  rw [hz1] at HC
  have HZ := Lib.hid ((Blk.new w #[.slice none 0 0, .slice none 0 0, .int .i64 0, .slice none 0 0] 34).alloc (.cells #[.slice A0 L0.length c0, .int .i64 0, .int .u64 0] 57))
  have HB := Lib.hid ((below_alloc w (.cells #[.slice none 0 0, .slice none 0 0, .int .i64 0, .slice none 0 0] 34)).trans ((below_alloc _ (.cells #[.slice A0 L0.length c0, .int .i64 0, .int .u64 0] 57)).mono (by simp)))
  have HC := Lib.hid HC
  clear h hz1
  go_enter Tryz.func15, Tryz.ntmps15
  go_wp2_with fail
  generalize (w.alloc (.cells #[.slice none 0 0, .slice none 0 0, .int .i64 0, .slice none 0 0] 34)).alloc (.cells #[.slice A0 L0.length c0, .int .i64 0, .int .u64 0] 57) = W0 at *
  have hlt := HC.out.lt
  have hz0 : w.heap.size < W0.heap.size := by omega
  refine (drawCloseDelayed_any A0 c0 L0 _ HH.out).mono ?_
  rintro e w1 ⟨A, c, F, B, d, T, n, C, f, P, E, o, D, L_, rfl, hf1, ht1, hp1, hn1, hm1, hd5, hdo, _, hq⟩
  have hl1 := hq.size
  have F1 := Lib.hid hf1
  have T1 := Lib.hid ht1
  have P1 := Lib.hid hp1
  have D1 := Lib.hid hm1
  have C1 := Lib.hid ((HC.out.below hq hlt).mono (k' := 100) (by omega))
  have O1 := Lib.hid (Oth.of_below (g := w.heap.size + 1) hq)
  clear hf1 ht1 hp1 hm1 hq HC HH
  have BX := Lib.hid (Blk.new w1 #[.slice A F.length c, .slice B T.length d, .int .i64 n, .slice C P.length f] 34)
  have F2 := Lib.hid (F1.out.below (below_alloc w1 (.cells #[.slice A F.length c, .slice B T.length d, .int .i64 n, .slice C P.length f] 34)))
  have T2 := Lib.hid (T1.out.below (below_alloc w1 (.cells #[.slice A F.length c, .slice B T.length d, .int .i64 n, .slice C P.length f] 34)))
  have P2 := Lib.hid (P1.out.below (below_alloc w1 (.cells #[.slice A F.length c, .slice B T.length d, .int .i64 n, .slice C P.length f] 34)))
  have D2 := Lib.hid (D1.out.below (below_alloc w1 (.cells #[.slice A F.length c, .slice B T.length d, .int .i64 n, .slice C P.length f] 34)))
  have C2 := Lib.hid (C1.out.alloc (.cells #[.slice A F.length c, .slice B T.length d, .int .i64 n, .slice C P.length f] 34))
  have O2 := Lib.hid (O1.out.alloc (.cells #[.slice A F.length c, .slice B T.length d, .int .i64 n, .slice C P.length f] 34))
  clear F1 T1 P1 C1 O1 D1
  go_upto_region 3 with (fail)
  obtain ⟨b, hb⟩ : ∃ b, w1.heap.size = b := ⟨_, rfl⟩
  have hzb : w.heap.size ≠ b := by omega
  have hgb : b ≠ w.heap.size + 1 := by omega
  rw [hb] at BX ⊢
  have hgw : w.heap.size + 1 < (w1.alloc (.cells #[.slice A F.length c, .slice B T.length d, .int .i64 n, .slice C P.length f] 34)).heap.size := by simp; omega
  generalize (w1.alloc (.cells #[.slice A F.length c, .slice B T.length d, .int .i64 n, .slice C P.length f] 34)) = w2 at BX F2 T2 P2 D2 C2 O2 hgw ⊢
  clear hb hl1
  have CS := Lib.hid (Q4.blk BX.out)
  have CJ1 := Lib.hid (fun (w' : World) (q c : Nat) (h : Cur w' (w.heap.size + 1) 100) (hB : Blk w' q #[.int .i64 101, .int .i64 (-1)] 3) (hne : q ≠ w.heap.size + 1) => among_any (w.heap.size + 1) 100 q 2 c #[.int .i64 101, .int .i64 (-1)] [101, -1] (-1) 101 w' h (by omega) hB rfl rfl hne (by simp) (by simp) (by simp))
  have CJ2 := Lib.hid (fun (w' : World) (q c : Nat) (t : Int) (h : Cur w' (w.heap.size + 1) 102) (hB : Blk w' q #[.int .i64 0, .int .i64 1, .int .i64 3, .int .i64 8, .int .i64 16, .int .i64 100, .int .i64 t] 3) (hne : q ≠ w.heap.size + 1) (ht : -1 ≤ t ∧ t ≤ 101) => among_any (w.heap.size + 1) 102 q 7 c #[.int .i64 0, .int .i64 1, .int .i64 3, .int .i64 8, .int .i64 16, .int .i64 100, .int .i64 t] [0, 1, 3, 8, 16, 100, t] (-1) 101 w' h (by omega) hB rfl rfl hne (by simp) (by simp) (by simp; omega))
  go_wp2_with fail
  go_region_held3 (fun wx => wx.cell? ⟨b, 0, none⟩ = some (.slice A F.length c) ∧ wx.cell? ⟨b, 1, none⟩ = some (.slice B T.length d) ∧ wx.cell? ⟨b, 2, none⟩ = some (.int .i64 n) ∧ wx.cell? ⟨b, 3, none⟩ = some (.slice C P.length f))
    (repeat (first | with_reducible exact CS.out | with_reducible exact hS6 | with_reducible exact hS5 | with_reducible refine Q4.drew ?_ | with_reducible refine Q4.alloc ?_ | with_reducible refine Q4.put hzb ?_))
    (first
      | (go_at_call 27; (first | (have hh5 := hc5) | fail); (first | (refine (CJ2.out _ _ _ t5 ?_ ?_ ?_ ?_).mono ?_) | fail); (focus ((repeat (first | with_reducible exact hc5 | with_reducible refine curD ?_ | with_reducible refine Cur.alloc ?_ _)); done)); (focus ((repeat (first | with_reducible refine Blk.drew ?_ | (with_reducible refine blkN ?_; (first | (simp; done) | (simp; omega) | rfl)) | with_reducible refine Blk.alloc ?_ _)); done)); (focus ((first | omega | (simp; omega)); done)); (focus omega); rintro e w6 ⟨L, rfl, l0, l1, hc6, ho6⟩; have BX6 := (ho6.blk (Blk.alloc BX5 (.cells #[.int .i64 0, .int .i64 1, .int .i64 3, .int .i64 8, .int .i64 16, .int .i64 100, .int .i64 t5] 3)) hgb); have hS6 : w6.cell? ⟨b, 0, none⟩ = some (.slice A F.length c) ∧ w6.cell? ⟨b, 1, none⟩ = some (.slice B T.length d) ∧ w6.cell? ⟨b, 2, none⟩ = some (.int .i64 n) ∧ w6.cell? ⟨b, 3, none⟩ = some (.slice C P.length f) := Q4.blk BX6; have Z6 := ho6.blk (Blk.alloc Z5 (.cells #[.int .i64 0, .int .i64 1, .int .i64 3, .int .i64 8, .int .i64 16, .int .i64 100, .int .i64 t5] 3)) (show w.heap.size ≠ w.heap.size + 1 by omega); (have z0 := Z6.cell 0); (have z1 := Z6.cell 1); (have z2 := Z6.cell 2); (have z3 := Z6.cell 3); (try simp only [List.getElem?_toArray, List.getElem?_cons_zero, List.getElem?_cons_succ] at z0 z1 z2 z3); have y0 := Z6.frozen 0; have y1 := Z6.frozen 1; have y2 := Z6.frozen 2; have y3 := Z6.frozen 3)
      | (go_at_call 27; (first | (refine (CJ1.out _ _ _ ?_ ?_ ?_).mono ?_) | fail); (focus ((repeat (first | with_reducible exact C2.out | with_reducible refine curD ?_ | with_reducible refine Cur.alloc ?_ _)); done)); (focus ((repeat (first | with_reducible refine Blk.drew ?_ | (with_reducible refine blkN ?_; (first | (simp; done) | (simp; omega) | rfl)) | with_reducible refine Blk.alloc ?_ _)); done)); (focus ((first | omega | (simp; omega)); done)); rintro e w5 ⟨t5, rfl, t50, t51, hc5, ho5⟩; have hl5 := hc5.lt; have BX5 : Blk w5 b #[.slice A F.length c, .slice B T.length d, .int .i64 n, .slice C P.length f] 34 := ho5.blk (Blk.drew (Blk.alloc BX.out (.cells #[.int .i64 101, .int .i64 (-1)] 3))) hgb; have hS5 : w5.cell? ⟨b, 0, none⟩ = some (.slice A F.length c) ∧ w5.cell? ⟨b, 1, none⟩ = some (.slice B T.length d) ∧ w5.cell? ⟨b, 2, none⟩ = some (.int .i64 n) ∧ w5.cell? ⟨b, 3, none⟩ = some (.slice C P.length f) := Q4.blk BX5; have Z5 : Blk w5 w.heap.size #[.slice none 0 0, .slice none 0 0, .int .i64 0, .slice none 0 0] 34 := ho5.blk (Blk.drew (Blk.alloc (O2.out.blk HZ.out (by omega)) (.cells #[.int .i64 101, .int .i64 (-1)] 3))) (by omega)))
  all_goals
    rename_i hHeld
    clear hHeld CS hS5 hS6 z0 z1 z2 z3 y0 y1 y2 y3 CJ1 CJ2
    have hgW : w.heap.size + 1 < W0.heap.size := hlt
    have O6 := (((O2.out.alloc (.cells #[.int .i64 101, .int .i64 (-1)] 3)).drew.trans ho5).alloc (.cells #[.int .i64 0, .int .i64 1, .int .i64 3, .int .i64 8, .int .i64 16, .int .i64 100, .int .i64 t5] 3)).trans ho6
    have oo5 := (Oth.refl (w.heap.size + 1) w2).alloc (.cells #[.int .i64 101, .int .i64 (-1)] 3) |>.drew.trans ho5 |>.alloc (.cells #[.int .i64 0, .int .i64 1, .int .i64 3, .int .i64 8, .int .i64 16, .int .i64 100, .int .i64 t5] 3) |>.trans ho6
    have F6 := Lib.hid (ownF.base (((((F2.out.oth oo5 hgW).set (p := ⟨w.heap.size, 0, none⟩) (.inl hz0) (.slice A F.length c)).set (p := ⟨w.heap.size, 1, none⟩) (.inl hz0) (.slice B T.length d)).set (p := ⟨w.heap.size, 2, none⟩) (.inl hz0) (.int .i64 n)).set (p := ⟨w.heap.size, 3, none⟩) (.inl hz0) (.slice C P.length f)) (Nat.le_of_lt hz0))
    have T6 := Lib.hid (ownF.base (((((T2.out.oth oo5 hgW).set (p := ⟨w.heap.size, 0, none⟩) (.inl hz0) (.slice A F.length c)).set (p := ⟨w.heap.size, 1, none⟩) (.inl hz0) (.slice B T.length d)).set (p := ⟨w.heap.size, 2, none⟩) (.inl hz0) (.int .i64 n)).set (p := ⟨w.heap.size, 3, none⟩) (.inl hz0) (.slice C P.length f)) (Nat.le_of_lt hz0))
    have P6 := Lib.hid (ownP.base (((((P2.out.oth oo5 hgW).set (p := ⟨w.heap.size, 0, none⟩) (.inl hz0) (.slice A F.length c)).set (p := ⟨w.heap.size, 1, none⟩) (.inl hz0) (.slice B T.length d)).set (p := ⟨w.heap.size, 2, none⟩) (.inl hz0) (.int .i64 n)).set (p := ⟨w.heap.size, 3, none⟩) (.inl hz0) (.slice C P.length f)) (Nat.le_of_lt hz0))
    have D6 := Lib.hid (MemO.base (((((D2.out.oth oo5 hgW).set (p := ⟨w.heap.size, 0, none⟩) hz0 (.slice A F.length c)).set (p := ⟨w.heap.size, 1, none⟩) hz0 (.slice B T.length d)).set (p := ⟨w.heap.size, 2, none⟩) hz0 (.int .i64 n)).set (p := ⟨w.heap.size, 3, none⟩) hz0 (.slice C P.length f)) (Nat.le_of_lt hz0))
    have B6 := Lib.hid (((((HB.out.trans (O6.below (B := w.heap.size) (by omega) (by omega))).setCell (p := ⟨w.heap.size, 0, none⟩) (Nat.le_refl _) (.slice A F.length c)).setCell (p := ⟨w.heap.size, 1, none⟩) (Nat.le_refl _) (.slice B T.length d)).setCell (p := ⟨w.heap.size, 2, none⟩) (Nat.le_refl _) (.int .i64 n)).setCell (p := ⟨w.heap.size, 3, none⟩) (Nat.le_refl _) (.slice C P.length f))
    have G6 := Lib.hid (put4 Z6 (.slice A F.length c) (.slice B T.length d) (.int .i64 n) (.slice C P.length f))
    have HD := Lib.hid hd5
    clear F2 T2 P2 C2 O2 D2 HZ HB BX BX5 BX6 Z5 Z6 ho5 ho6 hc5 hc6 hd5 O6 oo5
    generalize ((((w6.setCell ⟨w.heap.size, 0, none⟩ (.slice A F.length c)).setCell ⟨w.heap.size, 1, none⟩ (.slice B T.length d)).setCell ⟨w.heap.size, 2, none⟩ (.int .i64 n)).setCell ⟨w.heap.size, 3, none⟩ (.slice C P.length f)) = WF at F6 T6 P6 D6 B6 G6 ⊢
    have C0 : WF.cell? ⟨w.heap.size, 0, none⟩ = some (.slice A F.length c) := G6.out.cell 0
    have C1 : WF.cell? ⟨w.heap.size, 1, none⟩ = some (.slice B T.length d) := G6.out.cell 1
    have C2 : WF.cell? ⟨w.heap.size, 2, none⟩ = some (.int .i64 n) := G6.out.cell 2
    have C3 : WF.cell? ⟨w.heap.size, 3, none⟩ = some (.slice C P.length f) := G6.out.cell 3
    go_wp2_with fail
    refine bodyPost_ret (v := .tuple #[.agg #[.slice A F.length c, .slice B T.length d, .int .i64 n, .slice C P.length f], .slice E D.length o, .int .i64 L]) (by simp [results, Tryz.results15, go_sem, C0, C1, C2, C3]) rfl ?_
    exact ⟨A, c, F, B, d, T, n, C, f, P, E, o, D, L, rfl, F6.out, T6.out, P6.out, hn1, D6.out, HD.out, hdo, ⟨l0, l1⟩, B6.out⟩

end Go.Proofs.YthehcjfljjfnmaaGreat
