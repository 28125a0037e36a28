/-
  Draws: what SpotAfter is asked.
-/
import Derived.Test.YtbgbcajcajaocaaDsq
namespace Go.Proofs.Ytbgbcajcajaocaa
open Go.RowKit

/-- A sheet and a count are drawn. -/
def DrP (w : World) (e : Ending) (w' : World) : Prop :=
  ∃ (p : Int) (s : Sp) (A : Option Addr) (c : Nat) (L : List Rw) (n : Int), e = .returned (.tuple #[.agg #[.int .i64 p, .int .i64 s.x, .int .i64 s.y, .slice A L.length c], .int .i64 n]) ∧ w'.ownsRow w.heap.size 83 3 (.slice A L.length c) L.length (rows L) ∧ L.length ≤ 9 ∧ (∀ r ∈ L, smRw r) ∧ -1 ≤ n ∧ n ≤ 65536 ∧ Below w.heap.size w w'
abbrev Box4 (w : World) (b : Nat) (v0 v1 v2 v3 : Value) : Prop := w.cell? ⟨b, 0, none⟩ = some v0 ∧ w.cell? ⟨b, 1, none⟩ = some v1 ∧ w.cell? ⟨b, 2, none⟩ = some v2 ∧ w.cell? ⟨b, 3, none⟩ = some v3
section
variable {w : World} {b q : Nat} {v0 v1 v2 v3 x0 x1 x2 x3 : Value}
theorem keepD4 {o : Obj} (h : Box4 w b v0 v1 v2 v3) : Box4 (w.alloc o) b v0 v1 v2 v3 := ⟨keepD1 h.1, keepD1 h.2.1, keepD1 h.2.2.1, keepD1 h.2.2.2⟩
theorem keepE4 (h : Box4 w b v0 v1 v2 v3) : Box4 w.drew b v0 v1 v2 v3 := h
theorem keepP4 (h : Box4 w b v0 v1 v2 v3) (hne : q ≠ b) : Box4 ((((w.setCell ⟨q, 0, none⟩ x0).setCell ⟨q, 1, none⟩ x1).setCell ⟨q, 2, none⟩ x2).setCell ⟨q, 3, none⟩ x3) b v0 v1 v2 v3 :=
  ⟨keepP1 (keepP1 (keepP1 (keepP1 h.1 hne) hne) hne) hne, keepP1 (keepP1 (keepP1 (keepP1 h.2.1 hne) hne) hne) hne, keepP1 (keepP1 (keepP1 (keepP1 h.2.2.1 hne) hne) hne) hne, keepP1 (keepP1 (keepP1 (keepP1 h.2.2.2 hne) hne) hne) hne⟩
theorem keepB4 {w' : World} {g : Nat} (h : Oth g w w') (hS : Box4 w b v0 v1 v2 v3) (hb : b ≠ g) : Box4 w' b v0 v1 v2 v3 := ⟨keepB1 h hS.1 hb, keepB1 h hS.2.1 hb, keepB1 h hS.2.2.1 hb, keepB1 h hS.2.2.2 hb⟩
end
set_option maxRecDepth 100000 in
theorem drawSpotAfter_any (A : Option Addr) (c : Nat) (C : List Int) (w : World) (h : code w A C) : Calls Try.prog 36 #[.slice A C.length c] w (DrP w) := by
  have hz1 : (w.alloc (.cells #[.int .i64 0, .int .i64 0, .int .i64 0, .slice none 0 0] 29)).heap.size = w.heap.size + 1 := by simp
  have HC := code.cur (c := c) (h.below (below_alloc w (.cells #[.int .i64 0, .int .i64 0, .int .i64 0, .slice none 0 0] 29)))
  rw [hz1] at HC
  have HZ := Lib.hid ((Blk.new w #[.int .i64 0, .int .i64 0, .int .i64 0, .slice none 0 0] 29).alloc (.cells #[.slice A C.length c, .int .i64 0, .int .u64 0] 88))
  have HB := Lib.hid ((below_alloc w (.cells #[.int .i64 0, .int .i64 0, .int .i64 0, .slice none 0 0] 29)).trans ((below_alloc _ (.cells #[.slice A C.length c, .int .i64 0, .int .u64 0] 88)).mono (by simp)))
  have HC := Lib.hid HC
  clear h hz1
  obtain ⟨W0, hW0⟩ : ∃ x, (w.alloc (.cells #[.int .i64 0, .int .i64 0, .int .i64 0, .slice none 0 0] 29)).alloc (.cells #[.slice A C.length c, .int .i64 0, .int .u64 0] 88) = x := ⟨_, rfl⟩
  have hlt : w.heap.size + 1 < W0.heap.size := by rw [← hW0]; simp
  go_enter Try.func36, Try.ntmps36
  go_wp2_with fail
  (try rw [hW0] at HC)
  (try rw [hW0] at HB)
  (try rw [hW0] at HZ)
  (try rw [hW0])
  refine (sheet_any (w.heap.size + 1) 0 _ HC.out (by omega)).mono ?_
  rintro e w1 ⟨p, s, A1, c1, L, rfl, hown, hl, hsm, hcur, ho⟩
  have hW1 : W0.heap.size ≤ w1.heap.size := ho.size
  have S1 := Lib.hid (show ShS W0 (w1.alloc (.cells #[.int .i64 p, .int .i64 s.x, .int .i64 s.y, .slice A1 L.length c1] 29)) (w.heap.size + 1) 800 w.heap.size w1.heap.size p s L (.slice A1 L.length c1) from
    ⟨(ho.blk HZ.out (by omega)).alloc _, Blk.new _ _ _, own_below hown (below_alloc _ _), (fun e => by have := (hown.lt _ e).1; omega), (fun e => by have := (hown.lt _ e).2; omega), hcur.alloc _, ho.alloc _⟩)
  have SM := Lib.hid hsm
  clear hown hsm ho hcur HZ HC hW0
  go_wp2_with fail
  go_loopw [6, 17] (fun sv iv wr => ∃ (k : Nat) (sum : Int), k ≤ L.length ∧ sv = .int .i64 sum ∧ iv = .int .i64 k ∧ 0 ≤ sum ∧ sum ≤ 65 * k ∧ Hid (ShS W0 wr (w.heap.size + 1) 800 w.heap.size w1.heap.size p s L (.slice A1 L.length c1))) (fun _ iv _ => L.length - (intOf iv).toNat)
  case atStart => exact ⟨0, 0, by omega, rfl, rfl, by omega, by omega, S1⟩
  case round =>
    obtain ⟨k, sum, hk, rfl, rfl, s0, s1, S⟩ := hrel
    clear S1
    by_cases hlt' : k < L.length
    · obtain ⟨r, hr⟩ := some_of_lt hlt'
      have hrs := SM.out r (List.mem_of_getElem? hr)
      have r0 := hrs.1
      have r1 := hrs.2.1
      obtain ⟨bq, off, rfl, e0, e1, e2⟩ := (Mem.of_own S.out.own).row hr
      have SA := Lib.hid (S.out.alloc (.cells #[.int .i64 r.c, .int .i64 r.t.x, .int .i64 r.t.y] 83))
      clear S hrs hr
      go_wp2_with fail
      go_roundw
      case rel => exact ⟨k + 1, sum + r.c, by omega, by go_num, by go_num, by omega, by simp; omega, SA⟩
      case measure => simp [intOf]; omega
    · have hkl : k = L.length := by omega
      subst hkl
      have CS := Lib.hid (show Box4 wr w1.heap.size (.int .i64 p) (.int .i64 s.x) (.int .i64 s.y) (.slice A1 L.length c1) from ⟨S.out.cells.1, S.out.cells.2.1, S.out.cells.2.2.1, S.out.cells.2.2.2.1⟩)
      obtain ⟨z0, z1, z2, z3, v0_, v1_, v2_, v3_, hl2⟩ := S.out.zcells
      have hsl := S.out.cells.2.2.2.2.2.2.2.2
      have hzb : w1.heap.size ≠ w.heap.size + 1 := by omega
      have hzz : w.heap.size ≠ w.heap.size + 1 := by omega
      have hzs : w.heap.size ≠ w1.heap.size := by omega
      have HS := Lib.hid (show sum ≤ 585 by omega)
      have CJ1 := Lib.hid (fun (w' : World) (m : Int) (h : Cur w' (w.heap.size + 1) 800) (hm : m ≤ 65536) => pick_any (w.heap.size + 1) 800 m w' 65535 h (by omega) hm (by omega) (by omega))
      have CJ2 := Lib.hid (fun (w' : World) (m : Int) (h : Cur w' (w.heap.size + 1) 802) (hm : m ≤ 65536) => pick_any (w.heap.size + 1) 802 m w' 65535 h (by omega) hm (by omega) (by omega))
      have CJ3 := Lib.hid (fun (w' : World) (b c : Nat) (t q1 q2 : Int) (h : Cur w' (w.heap.size + 1) 804) (hB : Blk w' b #[.int .i64 0, .int .i64 1, .int .i64 sum, .int .i64 t, .int .i64 q1, .int .i64 q2, .int .i64 (-1)] 3) (hne : b ≠ w.heap.size + 1) (ht : -1 ≤ t ∧ t ≤ 65536) (h1 : -1 ≤ q1 ∧ q1 ≤ 65536) (h2 : -1 ≤ q2 ∧ q2 ≤ 65536) => among_any (w.heap.size + 1) 804 b 7 c #[.int .i64 0, .int .i64 1, .int .i64 sum, .int .i64 t, .int .i64 q1, .int .i64 q2, .int .i64 (-1)] [0, 1, sum, t, q1, q2, -1] (-1) 65536 w' h (by omega) hB rfl rfl hne (by simp) (by simp) (by simp; omega))
      have HT := Lib.hid (show -1 ≤ IntKind.i64.wrap (sum + 1) ∧ IntKind.i64.wrap (sum + 1) ≤ 65536 by rw [IntWalk.i64_in _ (by omega)]; omega)
      have HM := Lib.hid (show max 1 sum ≤ 65536 by omega)
      have HCU := Lib.hid S.out.cur
      have HZR := Lib.hid S.out.zb
      clear z0 z1 z2 z3 v0_ v1_ v2_ v3_ hlt'
      go_wp2_with fail
      go_region_held3 (fun wx => wx.cell? ⟨w1.heap.size, 0, none⟩ = some (.int .i64 p) ∧ wx.cell? ⟨w1.heap.size, 1, none⟩ = some (.int .i64 s.x) ∧ wx.cell? ⟨w1.heap.size, 2, none⟩ = some (.int .i64 s.y) ∧ wx.cell? ⟨w1.heap.size, 3, none⟩ = some (.slice A1 L.length c1))
        (repeat (first | with_reducible exact CS.out | with_reducible exact hS7 | with_reducible exact hS6 | with_reducible exact hS5 | with_reducible refine keepE4 ?_ | with_reducible refine keepD4 ?_ | with_reducible refine keepP4 ?_ hzs))
        (first
          | (go_at_call 66; (first | (have hm6 := hc6) | fail); (first | (refine (CJ3.out _ _ _ (IntKind.i64.wrap (sum + 1)) q1 q2 ?_ ?_ ?_ ?_ ?_ ?_).mono ?_) | fail); (focus (repeat (first | with_reducible exact hc6 | with_reducible refine cur_drew ?_ | with_reducible refine Cur.alloc ?_ _))); (focus (repeat (first | with_reducible refine Blk.drew ?_ | (with_reducible refine blk_new ?_; (first | (simp; done) | (simp; omega))) | with_reducible refine Blk.alloc ?_ _))); (focus (first | omega | (simp; omega))); (focus (first | with_reducible exact HT.out | omega)); (focus omega); (focus omega); rintro e w7 ⟨n, rfl, n0, n1, hc7, ho7⟩; have hS7 : w7.cell? ⟨w1.heap.size, 0, none⟩ = some (.int .i64 p) ∧ w7.cell? ⟨w1.heap.size, 1, none⟩ = some (.int .i64 s.x) ∧ w7.cell? ⟨w1.heap.size, 2, none⟩ = some (.int .i64 s.y) ∧ w7.cell? ⟨w1.heap.size, 3, none⟩ = some (.slice A1 L.length c1) := keepB4 ho7 (by repeat (first | with_reducible exact hS6 | with_reducible refine keepE4 ?_ | with_reducible refine keepD4 ?_)) hzb; have B7 : Blk w7 w.heap.size #[.int .i64 0, .int .i64 0, .int .i64 0, .slice none 0 0] 29 := ho7.blk (by repeat (first | with_reducible exact B6 | with_reducible refine Blk.drew ?_ | with_reducible refine Blk.alloc ?_ _)) hzz; have u0 := B7.frozen 0; have u1 := B7.frozen 1; have u2 := B7.frozen 2; have u3 := B7.frozen 3; have u4 := B7.cell 0; have u5 := B7.cell 1; have u6 := B7.cell 2; have u7 := B7.cell 3; (try simp at u4); (try simp at u5); (try simp at u6); (try simp at u7); have hl7 := B7.lt)
          | (go_at_call 65; (first | (have hm5 := hc5) | fail); (first | (refine (CJ2.out _ _ ?_ ?_).mono ?_) | fail); (focus (repeat (first | with_reducible exact hc5 | with_reducible refine cur_drew ?_ | with_reducible refine Cur.alloc ?_ _))); (focus (exact HM.out)); rintro e w6 ⟨q2, rfl, q20, q21, hc6, ho6⟩; have hg6 := hc6.lt; have hS6 : w6.cell? ⟨w1.heap.size, 0, none⟩ = some (.int .i64 p) ∧ w6.cell? ⟨w1.heap.size, 1, none⟩ = some (.int .i64 s.x) ∧ w6.cell? ⟨w1.heap.size, 2, none⟩ = some (.int .i64 s.y) ∧ w6.cell? ⟨w1.heap.size, 3, none⟩ = some (.slice A1 L.length c1) := keepB4 ho6 (by repeat (first | with_reducible exact hS5 | with_reducible refine keepE4 ?_ | with_reducible refine keepD4 ?_)) hzb; have B6 : Blk w6 w.heap.size #[.int .i64 0, .int .i64 0, .int .i64 0, .slice none 0 0] 29 := ho6.blk (by repeat (first | with_reducible exact B5 | with_reducible refine Blk.drew ?_ | with_reducible refine Blk.alloc ?_ _)) hzz)
          | (go_at_call 65; (first | (refine (CJ1.out _ _ ?_ ?_).mono ?_) | fail); (focus (repeat (first | with_reducible exact HCU.out | with_reducible refine cur_drew ?_ | with_reducible refine Cur.alloc ?_ _))); (focus (exact HM.out)); rintro e w5 ⟨q1, rfl, q10, q11, hc5, ho5⟩; have hS5 : w5.cell? ⟨w1.heap.size, 0, none⟩ = some (.int .i64 p) ∧ w5.cell? ⟨w1.heap.size, 1, none⟩ = some (.int .i64 s.x) ∧ w5.cell? ⟨w1.heap.size, 2, none⟩ = some (.int .i64 s.y) ∧ w5.cell? ⟨w1.heap.size, 3, none⟩ = some (.slice A1 L.length c1) := keepB4 ho5 (by repeat (first | with_reducible exact CS.out | with_reducible refine keepE4 ?_ | with_reducible refine keepD4 ?_)) hzb; have B5 : Blk w5 w.heap.size #[.int .i64 0, .int .i64 0, .int .i64 0, .slice none 0 0] 29 := ho5.blk (by repeat (first | with_reducible exact HZR.out | with_reducible refine Blk.drew ?_ | with_reducible refine Blk.alloc ?_ _)) hzz)
          | (go_at_call 67; refine (l1Most_any _ _ _).mono ?_; rintro e w8 ⟨rfl, rfl⟩))
      all_goals
        have O7 := Lib.hid ((((S.out.oth.drew.trans ho5).trans ho6).alloc _).trans ho7)
        have hx7 := ho7.own (own_below (ho6.own (ho5.own (own_drew S.out.own) hlt) hlt) (below_alloc _ _)) hlt
        have hne : (Value.slice A1 L.length c1).ownBlock ≠ some w.heap.size := fun e => by have := (hx7.lt _ e).1; omega
        obtain ⟨o1, o2, o3⟩ := put4 (p := p) (x := s.x) (y := s.y) B7 (own_base hx7 (by omega)) hne (HB.out.trans (O7.out.below (B := w.heap.size) (by omega) (by omega))) (Nat.le_refl _)
        have P1 := Lib.hid o1
        have P2 := Lib.hid o2
        have P3 := Lib.hid o3
        clear o1 o2 o3 hx7 hne O7 u0 u1 u2 u3 u4 u5 u6 u7 hS7 hS6 hS5 B5 B6 B7 ho5 ho6 ho7 hc5 hc6 hc7
        rename_i hHeld
        clear hHeld
        generalize ((((w7.setCell ⟨w.heap.size, 0, none⟩ (.int .i64 p)).setCell ⟨w.heap.size, 1, none⟩ (.int .i64 s.x)).setCell ⟨w.heap.size, 2, none⟩ (.int .i64 s.y)).setCell ⟨w.heap.size, 3, none⟩ (.slice A1 L.length c1)) = WF at *
        go_wp2_with fail
        have C0 : WF.cell? ⟨w.heap.size, 0, none⟩ = some (.int .i64 p) := (P3.out.cell 0).trans rfl
        have C1 : WF.cell? ⟨w.heap.size, 1, none⟩ = some (.int .i64 s.x) := (P3.out.cell 1).trans rfl
        have C2 : WF.cell? ⟨w.heap.size, 2, none⟩ = some (.int .i64 s.y) := (P3.out.cell 2).trans rfl
        have C3 : WF.cell? ⟨w.heap.size, 3, none⟩ = some (.slice A1 L.length c1) := (P3.out.cell 3).trans rfl
        refine bodyPost_ret (v := .tuple #[.agg #[.int .i64 p, .int .i64 s.x, .int .i64 s.y, .slice A1 L.length c1], .int .i64 n]) (by simp [results, Try.results36, go_sem, C0, C1, C2, C3]) rfl ?_
        exact ⟨p, s, A1, c1, L, n, rfl, P1.out, hl, SM.out, n0, n1, P2.out⟩
end Go.Proofs.Ytbgbcajcajaocaa
