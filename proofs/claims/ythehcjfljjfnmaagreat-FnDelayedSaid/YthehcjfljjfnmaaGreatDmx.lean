/-
  Draws of moves: repairMove, DrawPlaceDelayed.
-/
import Derived.Test.YthehcjfljjfnmaaGreatDmw
namespace Go.Proofs.YthehcjfljjfnmaaGreat
open Go.RowKit

theorem below_alloc (w : World) (o : Obj) : Below w.heap.size w (w.alloc o) := (Below.refl _ _).alloc (Nat.le_refl _) _
/-- Bytes that are handed in. -/
def code (w : World) (A : Option Addr) (C : List Int) : Prop := Mem w A (bytes C) ∧ (∀ x ∈ C, 0 ≤ x ∧ x ≤ 255) ∧ C.length ≤ 9223372036854775807
theorem code.below {w w' : World} {A : Option Addr} {C : List Int} (h : code w A C) (hb : Below w.heap.size w w') : code w' A C := ⟨h.1.below hb, h.2⟩
theorem code.cur {w : World} {A : Option Addr} {c : Nat} {C : List Int} (h : code w A C) : Cur (w.alloc (.cells #[.slice A C.length c, .int .i64 0, .int .u64 0] 57)) w.heap.size 0 := Cur.new h.1 h.2.1 h.2.2
set_option maxHeartbeats 6400000 in
set_option maxRecDepth 100000 in
theorem repairMove_any (g k : Nat) (w : World) (h : Cur w g k) (hk : k ≤ 500000) : Calls Tryz.prog 42 #[.pointer (some ⟨g, 0, none⟩)] w (Dv g (k + 70) mvG w) := by
  have hlt0 := h.lt
  have HZ := Lib.hid (Blk.new w #[.int .i64 0, .int .i64 0, .int .i64 0, .int .i64 0, .int .i64 0] 26)
  have HO := Lib.hid ((Oth.refl g w).alloc (.cells #[.int .i64 0, .int .i64 0, .int .i64 0, .int .i64 0, .int .i64 0] 26))
  have HC := Lib.hid (h.alloc (.cells #[.int .i64 0, .int .i64 0, .int .i64 0, .int .i64 0, .int .i64 0] 26))
  clear h
  go_enter Tryz.func42, Tryz.ntmps42
  go_wp2_with fail
  generalize (w.alloc (.cells #[.int .i64 0, .int .i64 0, .int .i64 0, .int .i64 0, .int .i64 0] 26)) = W0 at *
  refine (move_any g k _ HC.out (by omega)).mono ?_
  rintro e w1 ⟨m, rfl, hm, hc1, ho1⟩
  have O1 := Lib.hid (HO.out.trans ho1)
  have Z1 := Lib.hid (ho1.blk HZ.out (by omega))
  clear ho1 HO HZ HC
  have hzz := Z1.out.lt
  have HB := Lib.hid (Blk.new w1 #[.int .i64 m.f.x, .int .i64 m.f.y, .int .i64 m.t.x, .int .i64 m.t.y, .int .i64 m.c] 26)
  have HC := Lib.hid (hc1.alloc (.cells #[.int .i64 m.f.x, .int .i64 m.f.y, .int .i64 m.t.x, .int .i64 m.t.y, .int .i64 m.c] 26))
  have HO := Lib.hid (O1.out.alloc (.cells #[.int .i64 m.f.x, .int .i64 m.f.y, .int .i64 m.t.x, .int .i64 m.t.y, .int .i64 m.c] 26))
  have HZ := Lib.hid (Z1.out.alloc (.cells #[.int .i64 m.f.x, .int .i64 m.f.y, .int .i64 m.t.x, .int .i64 m.t.y, .int .i64 m.c] 26))
  have hz1 := hc1.lt
  clear O1 Z1 hc1
  have hmc := hm.2.2.2.2
  by_cases h16 : (16 : Int) < m.c
  · have hd : decide ((16 : Int) < m.c) = true := decide_eq_true h16
    go_wp2_with fail
    obtain ⟨b, hb⟩ : ∃ b, w1.heap.size = b := ⟨_, rfl⟩
    have hwb : w.heap.size < b := by omega
    have hgb : g < b := by omega
    rw [hb] at HB ⊢
    generalize (w1.alloc (.cells #[.int .i64 m.f.x, .int .i64 m.f.y, .int .i64 m.t.x, .int .i64 m.t.y, .int .i64 m.c] 26)) = W1 at *
    clear hb hzz hz1
    refine (one_any g (k + 60) 16 _ HC.out (by omega) (by omega)).mono ?_
    rintro e w2 ⟨q, rfl, hc2, ho2⟩
    have O2 := Lib.hid (HO.out.trans ho2)
    have Z2 := Lib.hid (ho2.blk HZ.out (by omega))
    have B2 := Lib.hid (ho2.blk HB.out (by omega))
    have C2_ := Lib.hid hc2
    clear ho2 HO HZ HB HC hc2
    cases q
    · go_wp2_with fail
      refine (among_any g (k + 62) _ 5 _ _ [1, 2, 4, 8, 16] 1 16 _ (C2_.out.alloc _) (by omega) (Blk.new _ _ _) rfl rfl (by have := C2_.out.lt; omega) (by simp) (by simp) (by simp)).mono ?_
      rintro e w3 ⟨n, rfl, n0, n1, hc3, ho3⟩
      have Ob := Lib.hid ((O2.out.alloc _).trans ho3)
      have Zb := Lib.hid (ho3.blk (Z2.out.alloc _) (by omega))
      have Bb := ho3.blk (B2.out.alloc _) (by omega)
      have Cb := Lib.hid hc3
      have d0_ := Bb.cell 0
      have d1_ := Bb.cell 1
      have d2_ := Bb.cell 2
      have d3_ := Bb.cell 3
      have d4_ := Bb.cell 4
      simp only [List.getElem?_toArray, List.getElem?_cons_zero, List.getElem?_cons_succ] at d0_ d1_ d2_ d3_ d4_
      have d0f_ := Bb.frozen 0
      have d1f_ := Bb.frozen 1
      have d2f_ := Bb.frozen 2
      have d3f_ := Bb.frozen 3
      have d4f_ := Bb.frozen 4
      have z0_ := Zb.out.cell 0
      have z1_ := Zb.out.cell 1
      have z2_ := Zb.out.cell 2
      have z3_ := Zb.out.cell 3
      have z4_ := Zb.out.cell 4
      simp only [List.getElem?_toArray, List.getElem?_cons_zero, List.getElem?_cons_succ] at z0_ z1_ z2_ z3_ z4_
      have z0f_ := Zb.out.frozen 0
      have z1f_ := Zb.out.frozen 1
      have z2f_ := Zb.out.frozen 2
      have z3f_ := Zb.out.frozen 3
      have z4f_ := Zb.out.frozen 4
      have Oc := Lib.hid (Ob.out.set (p := ⟨b, 4, none⟩) (.inr (by simp; omega)) (.int .i64 n))
      have Zc := Lib.hid (Zb.out.other (g' := b) (j := 4) (by omega) (.int .i64 n))
      have Cc := Lib.hid (Cb.out.put1 (p := ⟨b, 4, none⟩) (u := .int .i64 n) (by simp; omega))
      clear ho3 hc3 Ob Zb Bb Cb O2 Z2 B2 C2_
      have P1 := Lib.hid (put5 Zc.out (.int .i64 m.f.x) (.int .i64 m.f.y) (.int .i64 m.t.x) (.int .i64 m.t.y) (.int .i64 n))
      have P2 := Lib.hid (((((Oc.out.set (p := ⟨w.heap.size, 0, none⟩) (.inr (Nat.le_refl _)) (.int .i64 m.f.x)).set (p := ⟨w.heap.size, 1, none⟩) (.inr (Nat.le_refl _)) (.int .i64 m.f.y)).set (p := ⟨w.heap.size, 2, none⟩) (.inr (Nat.le_refl _)) (.int .i64 m.t.x)).set (p := ⟨w.heap.size, 3, none⟩) (.inr (Nat.le_refl _)) (.int .i64 m.t.y)).set (p := ⟨w.heap.size, 4, none⟩) (.inr (Nat.le_refl _)) (.int .i64 n))
      have P3 := Lib.hid (((((Cc.out.put1 (p := ⟨w.heap.size, 0, none⟩) (u := (.int .i64 m.f.x)) hlt0).put1 (p := ⟨w.heap.size, 1, none⟩) (u := (.int .i64 m.f.y)) hlt0).put1 (p := ⟨w.heap.size, 2, none⟩) (u := (.int .i64 m.t.x)) hlt0).put1 (p := ⟨w.heap.size, 3, none⟩) (u := (.int .i64 m.t.y)) hlt0).put1 (p := ⟨w.heap.size, 4, none⟩) (u := (.int .i64 n)) hlt0)
      go_wp2
      generalize ((((((w3.setCell ⟨b, 4, none⟩ (.int .i64 n)).setCell ⟨w.heap.size, 0, none⟩ (.int .i64 m.f.x)).setCell ⟨w.heap.size, 1, none⟩ (.int .i64 m.f.y)).setCell ⟨w.heap.size, 2, none⟩ (.int .i64 m.t.x)).setCell ⟨w.heap.size, 3, none⟩ (.int .i64 m.t.y)).setCell ⟨w.heap.size, 4, none⟩ (.int .i64 n)) = WF at P1 P2 P3 ⊢
      have C0 : WF.cell? ⟨w.heap.size, 0, none⟩ = some (.int .i64 m.f.x) := P1.out.cell 0
      have C1 : WF.cell? ⟨w.heap.size, 1, none⟩ = some (.int .i64 m.f.y) := P1.out.cell 1
      have C2 : WF.cell? ⟨w.heap.size, 2, none⟩ = some (.int .i64 m.t.x) := P1.out.cell 2
      have C3 : WF.cell? ⟨w.heap.size, 3, none⟩ = some (.int .i64 m.t.y) := P1.out.cell 3
      have C4 : WF.cell? ⟨w.heap.size, 4, none⟩ = some (.int .i64 n) := P1.out.cell 4
      refine bodyPost_ret (v := .agg #[.int .i64 m.f.x, .int .i64 m.f.y, .int .i64 m.t.x, .int .i64 m.t.y, .int .i64 n]) (by simp [results, Tryz.results42, go_sem, C0, C1, C2, C3, C4]) rfl ?_
      exact ⟨⟨⟨m.f.x, m.f.y⟩, ⟨m.t.x, m.t.y⟩, n⟩, rfl, by unfold mvG at *; dsimp only; omega, P3.out.mono (by omega), P2.out⟩
    · have Bb := B2.out
      have d0_ := Bb.cell 0
      have d1_ := Bb.cell 1
      have d2_ := Bb.cell 2
      have d3_ := Bb.cell 3
      have d4_ := Bb.cell 4
      simp only [List.getElem?_toArray, List.getElem?_cons_zero, List.getElem?_cons_succ] at d0_ d1_ d2_ d3_ d4_
      have d0f_ := Bb.frozen 0
      have d1f_ := Bb.frozen 1
      have d2f_ := Bb.frozen 2
      have d3f_ := Bb.frozen 3
      have d4f_ := Bb.frozen 4
      have z0_ := Z2.out.cell 0
      have z1_ := Z2.out.cell 1
      have z2_ := Z2.out.cell 2
      have z3_ := Z2.out.cell 3
      have z4_ := Z2.out.cell 4
      simp only [List.getElem?_toArray, List.getElem?_cons_zero, List.getElem?_cons_succ] at z0_ z1_ z2_ z3_ z4_
      have z0f_ := Z2.out.frozen 0
      have z1f_ := Z2.out.frozen 1
      have z2f_ := Z2.out.frozen 2
      have z3f_ := Z2.out.frozen 3
      have z4f_ := Z2.out.frozen 4
      clear Bb B2
      have P1 := Lib.hid (put5 Z2.out (.int .i64 m.f.x) (.int .i64 m.f.y) (.int .i64 m.t.x) (.int .i64 m.t.y) (.int .i64 m.c))
      have P2 := Lib.hid (((((O2.out.set (p := ⟨w.heap.size, 0, none⟩) (.inr (Nat.le_refl _)) (.int .i64 m.f.x)).set (p := ⟨w.heap.size, 1, none⟩) (.inr (Nat.le_refl _)) (.int .i64 m.f.y)).set (p := ⟨w.heap.size, 2, none⟩) (.inr (Nat.le_refl _)) (.int .i64 m.t.x)).set (p := ⟨w.heap.size, 3, none⟩) (.inr (Nat.le_refl _)) (.int .i64 m.t.y)).set (p := ⟨w.heap.size, 4, none⟩) (.inr (Nat.le_refl _)) (.int .i64 m.c))
      have P3 := Lib.hid (((((C2_.out.put1 (p := ⟨w.heap.size, 0, none⟩) (u := (.int .i64 m.f.x)) hlt0).put1 (p := ⟨w.heap.size, 1, none⟩) (u := (.int .i64 m.f.y)) hlt0).put1 (p := ⟨w.heap.size, 2, none⟩) (u := (.int .i64 m.t.x)) hlt0).put1 (p := ⟨w.heap.size, 3, none⟩) (u := (.int .i64 m.t.y)) hlt0).put1 (p := ⟨w.heap.size, 4, none⟩) (u := (.int .i64 m.c)) hlt0)
      go_wp2
      generalize (((((w2.setCell ⟨w.heap.size, 0, none⟩ (.int .i64 m.f.x)).setCell ⟨w.heap.size, 1, none⟩ (.int .i64 m.f.y)).setCell ⟨w.heap.size, 2, none⟩ (.int .i64 m.t.x)).setCell ⟨w.heap.size, 3, none⟩ (.int .i64 m.t.y)).setCell ⟨w.heap.size, 4, none⟩ (.int .i64 m.c)) = WF at P1 P2 P3 ⊢
      have C0 : WF.cell? ⟨w.heap.size, 0, none⟩ = some (.int .i64 m.f.x) := P1.out.cell 0
      have C1 : WF.cell? ⟨w.heap.size, 1, none⟩ = some (.int .i64 m.f.y) := P1.out.cell 1
      have C2 : WF.cell? ⟨w.heap.size, 2, none⟩ = some (.int .i64 m.t.x) := P1.out.cell 2
      have C3 : WF.cell? ⟨w.heap.size, 3, none⟩ = some (.int .i64 m.t.y) := P1.out.cell 3
      have C4 : WF.cell? ⟨w.heap.size, 4, none⟩ = some (.int .i64 m.c) := P1.out.cell 4
      refine bodyPost_ret (v := .agg #[.int .i64 m.f.x, .int .i64 m.f.y, .int .i64 m.t.x, .int .i64 m.t.y, .int .i64 m.c]) (by simp [results, Tryz.results42, go_sem, C0, C1, C2, C3, C4]) rfl ?_
      exact ⟨⟨⟨m.f.x, m.f.y⟩, ⟨m.t.x, m.t.y⟩, m.c⟩, rfl, by unfold mvG at *; dsimp only; omega, P3.out.mono (by omega), P2.out⟩
  · have hd : decide ((16 : Int) < m.c) = false := decide_eq_false h16
    have hlx : w1.heap.size < (w1.alloc (.cells #[.int .i64 m.f.x, .int .i64 m.f.y, .int .i64 m.t.x, .int .i64 m.t.y, .int .i64 m.c] 26)).heap.size := by simp
    go_upto_region 2 with (fail)
    obtain ⟨b, hb⟩ : ∃ b, w1.heap.size = b := ⟨_, rfl⟩
    have hwb : w.heap.size < b := by omega
    have hgb : g < b := by omega
    rw [hb] at HB ⊢
    generalize (w1.alloc (.cells #[.int .i64 m.f.x, .int .i64 m.f.y, .int .i64 m.t.x, .int .i64 m.t.y, .int .i64 m.c] 26)) = W1 at *
    clear hb hzz hz1 hlx
    have Bb := HB.out
    have d0_ := Bb.cell 0
    have d1_ := Bb.cell 1
    have d2_ := Bb.cell 2
    have d3_ := Bb.cell 3
    have d4_ := Bb.cell 4
    simp only [List.getElem?_toArray, List.getElem?_cons_zero, List.getElem?_cons_succ] at d0_ d1_ d2_ d3_ d4_
    have d0f_ := Bb.frozen 0
    have d1f_ := Bb.frozen 1
    have d2f_ := Bb.frozen 2
    have d3f_ := Bb.frozen 3
    have d4f_ := Bb.frozen 4
    have z0_ := HZ.out.cell 0
    have z1_ := HZ.out.cell 1
    have z2_ := HZ.out.cell 2
    have z3_ := HZ.out.cell 3
    have z4_ := HZ.out.cell 4
    simp only [List.getElem?_toArray, List.getElem?_cons_zero, List.getElem?_cons_succ] at z0_ z1_ z2_ z3_ z4_
    have z0f_ := HZ.out.frozen 0
    have z1f_ := HZ.out.frozen 1
    have z2f_ := HZ.out.frozen 2
    have z3f_ := HZ.out.frozen 3
    have z4f_ := HZ.out.frozen 4
    clear Bb HB
    have P1 := Lib.hid (put5 HZ.out (.int .i64 m.f.x) (.int .i64 m.f.y) (.int .i64 m.t.x) (.int .i64 m.t.y) (.int .i64 m.c))
    have P2 := Lib.hid (((((HO.out.set (p := ⟨w.heap.size, 0, none⟩) (.inr (Nat.le_refl _)) (.int .i64 m.f.x)).set (p := ⟨w.heap.size, 1, none⟩) (.inr (Nat.le_refl _)) (.int .i64 m.f.y)).set (p := ⟨w.heap.size, 2, none⟩) (.inr (Nat.le_refl _)) (.int .i64 m.t.x)).set (p := ⟨w.heap.size, 3, none⟩) (.inr (Nat.le_refl _)) (.int .i64 m.t.y)).set (p := ⟨w.heap.size, 4, none⟩) (.inr (Nat.le_refl _)) (.int .i64 m.c))
    have P3 := Lib.hid (((((HC.out.put1 (p := ⟨w.heap.size, 0, none⟩) (u := (.int .i64 m.f.x)) hlt0).put1 (p := ⟨w.heap.size, 1, none⟩) (u := (.int .i64 m.f.y)) hlt0).put1 (p := ⟨w.heap.size, 2, none⟩) (u := (.int .i64 m.t.x)) hlt0).put1 (p := ⟨w.heap.size, 3, none⟩) (u := (.int .i64 m.t.y)) hlt0).put1 (p := ⟨w.heap.size, 4, none⟩) (u := (.int .i64 m.c)) hlt0)
    go_wp2
    generalize (((((W1.setCell ⟨w.heap.size, 0, none⟩ (.int .i64 m.f.x)).setCell ⟨w.heap.size, 1, none⟩ (.int .i64 m.f.y)).setCell ⟨w.heap.size, 2, none⟩ (.int .i64 m.t.x)).setCell ⟨w.heap.size, 3, none⟩ (.int .i64 m.t.y)).setCell ⟨w.heap.size, 4, none⟩ (.int .i64 m.c)) = WF at P1 P2 P3 ⊢
    have C0 : WF.cell? ⟨w.heap.size, 0, none⟩ = some (.int .i64 m.f.x) := P1.out.cell 0
    have C1 : WF.cell? ⟨w.heap.size, 1, none⟩ = some (.int .i64 m.f.y) := P1.out.cell 1
    have C2 : WF.cell? ⟨w.heap.size, 2, none⟩ = some (.int .i64 m.t.x) := P1.out.cell 2
    have C3 : WF.cell? ⟨w.heap.size, 3, none⟩ = some (.int .i64 m.t.y) := P1.out.cell 3
    have C4 : WF.cell? ⟨w.heap.size, 4, none⟩ = some (.int .i64 m.c) := P1.out.cell 4
    refine bodyPost_ret (v := .agg #[.int .i64 m.f.x, .int .i64 m.f.y, .int .i64 m.t.x, .int .i64 m.t.y, .int .i64 m.c]) (by simp [results, Tryz.results42, go_sem, C0, C1, C2, C3, C4]) rfl ?_
    exact ⟨⟨⟨m.f.x, m.f.y⟩, ⟨m.t.x, m.t.y⟩, m.c⟩, rfl, by unfold mvG at *; dsimp only; omega, P3.out.mono (by omega), P2.out⟩

/-- What PlaceDelayed is asked. -/
def DrPd (w : World) (e : Ending) (w' : World) : Prop :=
  ∃ (m : Mv) (d c : Int), e = .returned (.tuple #[.agg #[.int .i64 m.f.x, .int .i64 m.f.y, .int .i64 m.t.x, .int .i64 m.t.y, .int .i64 m.c], .int .i64 d, .int .i64 c]) ∧ mvG m ∧ (-1 ≤ d ∧ d ≤ 5) ∧ (-1 ≤ c ∧ c ≤ 101) ∧ Below w.heap.size w w'
set_option maxHeartbeats 6400000 in
set_option maxRecDepth 100000 in
theorem drawPlaceDelayed_any (A : Option Addr) (c : Nat) (C : List Int) (w : World) (h : code w A C) : Calls Tryz.prog 12 #[.slice A C.length c] w (DrPd w) := by
  have hz1 : (w.alloc (.cells #[.int .i64 0, .int .i64 0, .int .i64 0, .int .i64 0, .int .i64 0] 26)).heap.size = w.heap.size + 1 := by simp
  have HC := code.cur (c := c) (h.below (below_alloc w (.cells #[.int .i64 0, .int .i64 0, .int .i64 0, .int .i64 0, .int .i64 0] 26)))
  rw [hz1] at HC
  have HZ := Lib.hid ((Blk.new w #[.int .i64 0, .int .i64 0, .int .i64 0, .int .i64 0, .int .i64 0] 26).alloc (.cells #[.slice A C.length c, .int .i64 0, .int .u64 0] 57))
  have HB := Lib.hid ((below_alloc w (.cells #[.int .i64 0, .int .i64 0, .int .i64 0, .int .i64 0, .int .i64 0] 26)).trans ((below_alloc _ (.cells #[.slice A C.length c, .int .i64 0, .int .u64 0] 57)).mono (by simp)))
  have HC := Lib.hid HC
  clear h hz1
  go_enter Tryz.func12, Tryz.ntmps12
  go_wp2_with fail
  generalize (w.alloc (.cells #[.int .i64 0, .int .i64 0, .int .i64 0, .int .i64 0, .int .i64 0] 26)).alloc (.cells #[.slice A C.length c, .int .i64 0, .int .u64 0] 57) = W0 at *
  have hlt := HC.out.lt
  refine (repairMove_any (w.heap.size + 1) 0 _ HC.out (by omega)).mono ?_
  rintro e w1 ⟨m, rfl, hm, hc1, ho1⟩
  have O1 := Lib.hid ho1
  have hl1 := hc1.lt
  clear ho1 HC
  go_wp2_with fail
  refine (among_any (w.heap.size + 1) 70 _ 2 _ _ [5, -1] (-1) 5 _ ((hc1.mono (by omega)).alloc _) (by omega) (Blk.new _ _ _) rfl rfl (by omega) (by simp) (by simp) (by simp)).mono ?_
  rintro e w2 ⟨d1, rfl, _, _, hc2, ho2⟩
  have O2 := Lib.hid ((O1.out.alloc _).trans ho2)
  have hl2 := hc2.lt
  clear ho2 hc1 O1
  go_wp2_with fail
  refine (among_any (w.heap.size + 1) 72 _ 4 _ _ [0, 1, 4, d1] (-1) 5 _ (hc2.alloc _) (by omega) (Blk.new _ _ _) rfl rfl (by omega) (by simp) (by simp) (by simp; omega)).mono ?_
  rintro e w3 ⟨d, rfl, _, _, hc3, ho3⟩
  have O3 := Lib.hid ((O2.out.alloc _).trans ho3)
  have hl3 := hc3.lt
  clear ho3 hc2 O2
  go_wp2_with fail
  refine (among_any (w.heap.size + 1) 74 _ 2 _ _ [101, -1] (-1) 101 _ (hc3.alloc _) (by omega) (Blk.new _ _ _) rfl rfl (by omega) (by simp) (by simp) (by simp)).mono ?_
  rintro e w4 ⟨d4, rfl, _, _, hc4, ho4⟩
  have O4 := Lib.hid ((O3.out.alloc _).trans ho4)
  have hl4 := hc4.lt
  clear ho4 hc3 O3
  go_wp2_with fail
  refine (among_any (w.heap.size + 1) 76 _ 7 _ _ [0, 1, 4, 9, 17, 100, d4] (-1) 101 _ (hc4.alloc _) (by omega) (Blk.new _ _ _) rfl rfl (by omega) (by simp) (by simp) (by simp; omega)).mono ?_
  rintro e w5 ⟨d5, rfl, _, _, hc5, ho5⟩
  have O5 := Lib.hid ((O4.out.alloc _).trans ho5)
  clear ho5 hc4 O4 hc5
  have Z5 := Lib.hid (O5.out.blk HZ.out (by omega))
  have B5 := Lib.hid (HB.out.trans (O5.out.below (B := w.heap.size) (by omega) (by omega)))
  have z0 := Z5.out.cell 0
  have z1 := Z5.out.cell 1
  have z2 := Z5.out.cell 2
  have z3 := Z5.out.cell 3
  have z4 := Z5.out.cell 4
  simp only [List.getElem?_toArray, List.getElem?_cons_zero, List.getElem?_cons_succ] at z0 z1 z2 z3 z4
  have y0 := Z5.out.frozen 0
  have y1 := Z5.out.frozen 1
  have y2 := Z5.out.frozen 2
  have y3 := Z5.out.frozen 3
  have y4 := Z5.out.frozen 4
  have P1 := Lib.hid (put5 Z5.out (.int .i64 m.f.x) (.int .i64 m.f.y) (.int .i64 m.t.x) (.int .i64 m.t.y) (.int .i64 m.c))
  have P2 := Lib.hid (((((B5.out.setCell (p := ⟨w.heap.size, 0, none⟩) (Nat.le_refl _) (.int .i64 m.f.x)).setCell (p := ⟨w.heap.size, 1, none⟩) (Nat.le_refl _) (.int .i64 m.f.y)).setCell (p := ⟨w.heap.size, 2, none⟩) (Nat.le_refl _) (.int .i64 m.t.x)).setCell (p := ⟨w.heap.size, 3, none⟩) (Nat.le_refl _) (.int .i64 m.t.y)).setCell (p := ⟨w.heap.size, 4, none⟩) (Nat.le_refl _) (.int .i64 m.c))
  clear O5 HZ HB B5 Z5
  go_wp2_with fail
  generalize (((((w5.setCell ⟨w.heap.size, 0, none⟩ (.int .i64 m.f.x)).setCell ⟨w.heap.size, 1, none⟩ (.int .i64 m.f.y)).setCell ⟨w.heap.size, 2, none⟩ (.int .i64 m.t.x)).setCell ⟨w.heap.size, 3, none⟩ (.int .i64 m.t.y)).setCell ⟨w.heap.size, 4, none⟩ (.int .i64 m.c)) = WF at P1 P2 ⊢
  have C0 : WF.cell? ⟨w.heap.size, 0, none⟩ = some (.int .i64 m.f.x) := P1.out.cell 0
  have C1 : WF.cell? ⟨w.heap.size, 1, none⟩ = some (.int .i64 m.f.y) := P1.out.cell 1
  have C2 : WF.cell? ⟨w.heap.size, 2, none⟩ = some (.int .i64 m.t.x) := P1.out.cell 2
  have C3 : WF.cell? ⟨w.heap.size, 3, none⟩ = some (.int .i64 m.t.y) := P1.out.cell 3
  have C4 : WF.cell? ⟨w.heap.size, 4, none⟩ = some (.int .i64 m.c) := P1.out.cell 4
  refine bodyPost_ret (v := .tuple #[.agg #[.int .i64 m.f.x, .int .i64 m.f.y, .int .i64 m.t.x, .int .i64 m.t.y, .int .i64 m.c], .int .i64 d, .int .i64 d5]) (by simp [results, Tryz.results12, go_sem, C0, C1, C2, C3, C4]) rfl ?_
  exact ⟨m, d, d5, rfl, hm, by omega, by omega, P2.out⟩

end Go.Proofs.YthehcjfljjfnmaaGreat
