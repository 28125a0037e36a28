/-
  Draws: a transition.
-/
import Derived.Test.YthehcjfljjfnmaaGreatDth
namespace Go.Proofs.YthehcjfljjfnmaaGreat
open Go.RowKit

/-- A transition is drawn. -/
def Dtr (g k : Nat) (w : World) (e : Ending) (w' : World) : Prop :=
  ∃ A c F B d T n C f P, e = .returned (.agg #[.slice A F.length c, .slice B T.length d, .int .i64 n, .slice C P.length f]) ∧ ownF w w' A c F ∧ ownF w w' B d T ∧ ownP w w' C f P ∧ (0 ≤ n ∧ n ≤ 65) ∧ Cur w' g k ∧ Oth g w w'
set_option maxHeartbeats 12800000 in
set_option maxRecDepth 100000 in
theorem transition_any (g k : Nat) (w : World) (h : Cur w g k) (hk : k ≤ 200000) : Calls Tryz.prog 85 #[.pointer (some ⟨g, 0, none⟩)] w (Dtr g (k + 24000) w) := by
  have hlt0 := h.lt
  have HZ := Lib.hid (Blk.new w #[.slice none 0 0, .slice none 0 0, .int .i64 0, .slice none 0 0] 34)
  have HO := Lib.hid ((Oth.refl g w).alloc (.cells #[.slice none 0 0, .slice none 0 0, .int .i64 0, .slice none 0 0] 34))
  have HC := Lib.hid (h.alloc (.cells #[.slice none 0 0, .slice none 0 0, .int .i64 0, .slice none 0 0] 34))
  have hz0 : w.heap.size < (w.alloc (.cells #[.slice none 0 0, .slice none 0 0, .int .i64 0, .slice none 0 0] 34)).heap.size := by simp
  clear h
  go_enter Tryz.func85, Tryz.ntmps85
  go_wp2_with fail
  generalize (w.alloc (.cells #[.slice none 0 0, .slice none 0 0, .int .i64 0, .slice none 0 0] 34)) = W0 at *
  have hg0 : g < W0.heap.size := by omega
  refine (formsTwo_any g k _ HC.out (by omega)).mono ?_
  rintro e w1 ⟨A1, c1, F, B1, d1, T, rfl, hf1, ht1, hc1, ho1⟩
  have F1 := Lib.hid hf1
  have T1 := Lib.hid ht1
  have O1 := Lib.hid (HO.out.trans ho1)
  have Z1 := Lib.hid (ho1.blk HZ.out (by omega))
  have hfl := hf1.1
  have htl := ht1.1
  have hl1 := hc1.lt
  have sz1 : W0.heap.size ≤ w1.heap.size := ho1.size
  clear hf1 ht1 ho1 HO HZ HC
  go_wp2_with fail
  refine (among_any g (k + 23000) _ 2 _ _ [0, 65] 0 65 _ (hc1.alloc _) (by omega) (Blk.new _ _ _) rfl rfl (by omega) (by simp) (by simp) (by simp)).mono ?_
  rintro e w2 ⟨n1, rfl, n10, n11, hc2, ho2⟩
  have F2 := Lib.hid ((F1.out.below (below_alloc _ (.cells #[.int .i64 0, .int .i64 65] 3))).oth ho2 hg0)
  have T2 := Lib.hid ((T1.out.below (below_alloc _ (.cells #[.int .i64 0, .int .i64 65] 3))).oth ho2 hg0)
  have O2 := Lib.hid ((O1.out.alloc _).trans ho2)
  have Z2 := Lib.hid (ho2.blk (Z1.out.alloc _) (by omega))
  have hl2 := hc2.lt
  have sz2 : W0.heap.size ≤ w2.heap.size := by have := ho2.size; simp at this; omega
  clear ho2 hc1 F1 T1 O1 Z1
  go_wp2_with fail
  refine (among_any g (k + 23002) _ 8 _ _ [1, 4, 8, 8, 16, 32, 64, n1] 0 65 _ (hc2.alloc _) (by omega) (Blk.new _ _ _) rfl rfl (by omega) (by simp) (by simp) (by simp; omega)).mono ?_
  rintro e w3 ⟨n, rfl, n0, n2, hc3, ho3⟩
  have F3 := Lib.hid ((F2.out.below (below_alloc _ _)).oth ho3 hg0)
  have T3 := Lib.hid ((T2.out.below (below_alloc _ _)).oth ho3 hg0)
  have O3 := Lib.hid ((O2.out.alloc _).trans ho3)
  have Z3 := Lib.hid (ho3.blk (Z2.out.alloc _) (by omega))
  have hz3 : W0.heap.size ≤ w3.heap.size := by have := ho3.size; simp at this; omega
  clear sz1 sz2
  clear ho3 hc2 F2 T2 O2 Z2
  go_wp2_with fail
  refine (matching_any g (k + 23004) F.length _ hc3 (by omega) (by omega)).mono ?_
  rintro e w4 ⟨C5, f5, P, rfl, hpl, hp4, hc4, ho4⟩
  have hpn : P.length ≤ 13 := by omega
  have P4 := Lib.hid (show ownP W0 w4 C5 f5 P from ⟨by omega, own_base hp4 hz3⟩)
  have F4 := Lib.hid (F3.out.oth ho4 hg0)
  have T4 := Lib.hid (T3.out.oth ho4 hg0)
  have O4 := Lib.hid (O3.out.trans ho4)
  have Z4 := Lib.hid (ho4.blk Z3.out (by omega))
  have hz4 : W0.heap.size ≤ w4.heap.size := by have := ho4.size; omega
  have hl4 := hc4.lt
  clear hp4 ho4 F3 T3 O3 Z3 hc3 hpl
  have BX := Lib.hid (Blk.new w4 #[.slice A1 F.length c1, .slice B1 T.length d1, .int .i64 n, .slice C5 P.length f5] 34)
  have F5 := Lib.hid (F4.out.below (below_alloc w4 (.cells #[.slice A1 F.length c1, .slice B1 T.length d1, .int .i64 n, .slice C5 P.length f5] 34)))
  have T5 := Lib.hid (T4.out.below (below_alloc w4 (.cells #[.slice A1 F.length c1, .slice B1 T.length d1, .int .i64 n, .slice C5 P.length f5] 34)))
  have P5 := Lib.hid (P4.out.below (below_alloc w4 (.cells #[.slice A1 F.length c1, .slice B1 T.length d1, .int .i64 n, .slice C5 P.length f5] 34)))
  have O5 := Lib.hid (O4.out.alloc (.cells #[.slice A1 F.length c1, .slice B1 T.length d1, .int .i64 n, .slice C5 P.length f5] 34))
  have Z5 := Lib.hid (Z4.out.alloc (.cells #[.slice A1 F.length c1, .slice B1 T.length d1, .int .i64 n, .slice C5 P.length f5] 34))
  have C5_ := Lib.hid (hc4.alloc (.cells #[.slice A1 F.length c1, .slice B1 T.length d1, .int .i64 n, .slice C5 P.length f5] 34))
  have hFb := Lib.hid (show ∀ q, (Value.slice A1 F.length c1).ownBlock = some q → q < w4.heap.size from fun q hq => (F4.out.2.1.lt q hq).2)
  have hTb := Lib.hid (show ∀ q, (Value.slice B1 T.length d1).ownBlock = some q → q < w4.heap.size from fun q hq => (T4.out.2.1.lt q hq).2)
  have hPb := Lib.hid (show ∀ q, (Value.slice C5 P.length f5).ownBlock = some q → q < w4.heap.size from fun q hq => (P4.out.2.lt q hq).2)
  have hcf := own_capM F4.out.2.1
  have hct := own_capM T4.out.2.1
  clear F4 T4 P4 O4 Z4 hc4
  obtain ⟨b, hb⟩ : ∃ b, w4.heap.size = b := ⟨_, rfl⟩
  have hzb : w.heap.size < b := by omega
  have hgb : g < b := by omega
  have hlb : b < (w4.alloc (.cells #[.slice A1 F.length c1, .slice B1 T.length d1, .int .i64 n, .slice C5 P.length f5] 34)).heap.size := by simp; omega
  rw [hb] at BX hFb hTb hPb
  obtain ⟨ok, hok⟩ : ∃ ok, askOk F T n = ok := ⟨_, rfl⟩
  have HOK := Lib.hid hok
  have CA := Lib.hid (fun (w' : World) (hf : Mem w' A1 (spots F)) (ht : Mem w' B1 (spots T)) => asAsked_any A1 c1 F B1 d1 T n w' hf ht (by omega) (by omega) hcf hct)
  cases ok
  · go_wp2_with fail
    (try rw [hb])
    generalize (w4.alloc (.cells #[.slice A1 F.length c1, .slice B1 T.length d1, .int .i64 n, .slice C5 P.length f5] 34)) = w5 at *
    refine (CA.out _ (Mem.of_own F5.out.2.1) (Mem.of_own T5.out.2.1)).mono ?_
    rintro e w6 ⟨he, hq6⟩
    rw [HOK.out] at he
    subst he
    have F6 := Lib.hid (F5.out.below hq6)
    have T6 := Lib.hid (T5.out.below hq6)
    have P6 := Lib.hid (P5.out.below hq6)
    have O6 := Lib.hid (O5.out.trans (Oth.of_below hq6))
    have Z6 := Lib.hid (Z5.out.below hq6 (by omega))
    have C6 := Lib.hid (C5_.out.below hq6 (by omega))
    have B6 := Lib.hid (BX.out.below hq6 hlb)
    clear F5 T5 P5 O5 Z5 C5_ BX hq6 hok
    have qd0 := B6.out.cell 0
    have qd1 := B6.out.cell 1
    have qd2 := B6.out.cell 2
    have qd3 := B6.out.cell 3
    simp only [List.getElem?_toArray, List.getElem?_cons_zero, List.getElem?_cons_succ] at qd0 qd1 qd2 qd3
    have qdf0 := B6.out.frozen 0
    have qdf1 := B6.out.frozen 1
    have qdf2 := B6.out.frozen 2
    have qdf3 := B6.out.frozen 3
    have qz0 := Z6.out.cell 0
    have qz1 := Z6.out.cell 1
    have qz2 := Z6.out.cell 2
    have qz3 := Z6.out.cell 3
    simp only [List.getElem?_toArray, List.getElem?_cons_zero, List.getElem?_cons_succ] at qz0 qz1 qz2 qz3
    have qzf0 := Z6.out.frozen 0
    have qzf1 := Z6.out.frozen 1
    have qzf2 := Z6.out.frozen 2
    have qzf3 := Z6.out.frozen 3
    clear B6
    have G0 := Lib.hid (put4 Z6.out (.slice A1 F.length c1) (.slice B1 T.length d1) (.int .i64 n) (.slice C5 P.length f5))
    have R1 := Lib.hid (ownF.base ((((F6.out.set (p := ⟨w.heap.size, 0, none⟩) (.inl hz0) (.slice A1 F.length c1)).set (p := ⟨w.heap.size, 1, none⟩) (.inl hz0) (.slice B1 T.length d1)).set (p := ⟨w.heap.size, 2, none⟩) (.inl hz0) (.int .i64 n)).set (p := ⟨w.heap.size, 3, none⟩) (.inl hz0) (.slice C5 P.length f5)) (Nat.le_of_lt hz0))
    have R2 := Lib.hid (ownF.base ((((T6.out.set (p := ⟨w.heap.size, 0, none⟩) (.inl hz0) (.slice A1 F.length c1)).set (p := ⟨w.heap.size, 1, none⟩) (.inl hz0) (.slice B1 T.length d1)).set (p := ⟨w.heap.size, 2, none⟩) (.inl hz0) (.int .i64 n)).set (p := ⟨w.heap.size, 3, none⟩) (.inl hz0) (.slice C5 P.length f5)) (Nat.le_of_lt hz0))
    have R3 := Lib.hid (ownP.base ((((P6.out.set (p := ⟨w.heap.size, 0, none⟩) (.inl hz0) (.slice A1 F.length c1)).set (p := ⟨w.heap.size, 1, none⟩) (.inl hz0) (.slice B1 T.length d1)).set (p := ⟨w.heap.size, 2, none⟩) (.inl hz0) (.int .i64 n)).set (p := ⟨w.heap.size, 3, none⟩) (.inl hz0) (.slice C5 P.length f5)) (Nat.le_of_lt hz0))
    have G2 := Lib.hid ((((C6.out.put1 (p := ⟨w.heap.size, 0, none⟩) (u := .slice A1 F.length c1) hlt0).put1 (p := ⟨w.heap.size, 1, none⟩) (u := .slice B1 T.length d1) hlt0).put1 (p := ⟨w.heap.size, 2, none⟩) (u := .int .i64 n) hlt0).put1 (p := ⟨w.heap.size, 3, none⟩) (u := .slice C5 P.length f5) hlt0)
    have G3 := Lib.hid ((((O6.out.set (p := ⟨w.heap.size, 0, none⟩) (.inr (Nat.le_refl _)) (.slice A1 F.length c1)).set (p := ⟨w.heap.size, 1, none⟩) (.inr (Nat.le_refl _)) (.slice B1 T.length d1)).set (p := ⟨w.heap.size, 2, none⟩) (.inr (Nat.le_refl _)) (.int .i64 n)).set (p := ⟨w.heap.size, 3, none⟩) (.inr (Nat.le_refl _)) (.slice C5 P.length f5))
    go_wp2_with fail
    generalize ((((w6.setCell ⟨w.heap.size, 0, none⟩ (.slice A1 F.length c1)).setCell ⟨w.heap.size, 1, none⟩ (.slice B1 T.length d1)).setCell ⟨w.heap.size, 2, none⟩ (.int .i64 n)).setCell ⟨w.heap.size, 3, none⟩ (.slice C5 P.length f5)) = WF at G0 R1 R2 R3 G2 G3 ⊢
    have C0 : WF.cell? ⟨w.heap.size, 0, none⟩ = some (.slice A1 F.length c1) := G0.out.cell 0
    have C1 : WF.cell? ⟨w.heap.size, 1, none⟩ = some (.slice B1 T.length d1) := G0.out.cell 1
    have C2 : WF.cell? ⟨w.heap.size, 2, none⟩ = some (.int .i64 n) := G0.out.cell 2
    have C3 : WF.cell? ⟨w.heap.size, 3, none⟩ = some (.slice C5 P.length f5) := G0.out.cell 3
    refine bodyPost_ret (v := .agg #[.slice A1 F.length c1, .slice B1 T.length d1, .int .i64 n, .slice C5 P.length f5]) (by simp [results, Tryz.results85, go_sem, C0, C1, C2, C3]) rfl ?_
    exact ⟨A1, c1, F, B1, d1, T, n, C5, f5, P, rfl, R1.out, R2.out, R3.out, ⟨n0, n2⟩, G2.out.mono (by omega), G3.out⟩
  · go_wp2_with fail
    (try rw [hb])
    generalize (w4.alloc (.cells #[.slice A1 F.length c1, .slice B1 T.length d1, .int .i64 n, .slice C5 P.length f5] 34)) = w5 at *
    refine (CA.out _ (Mem.of_own F5.out.2.1) (Mem.of_own T5.out.2.1)).mono ?_
    rintro e w6 ⟨he, hq6⟩
    rw [HOK.out] at he
    subst he
    have F6 := Lib.hid (F5.out.below hq6)
    have T6 := Lib.hid (T5.out.below hq6)
    have P6 := Lib.hid (P5.out.below hq6)
    have O6 := Lib.hid (O5.out.trans (Oth.of_below hq6))
    have Z6 := Lib.hid (Z5.out.below hq6 (by omega))
    have C6 := Lib.hid (C5_.out.below hq6 (by omega))
    have B6 := Lib.hid (BX.out.below hq6 hlb)
    have hlb6 : b < w6.heap.size := by have := hq6.size; omega
    clear F5 T5 P5 O5 Z5 C5_ BX hq6 hok hlb
    go_wp2_with fail
    refine (one_any g (k + 23044) 3 _ C6.out (by omega) (by omega)).mono ?_
    rintro e w7 ⟨b7, rfl, hc7, ho7⟩
    have F7 := Lib.hid (F6.out.oth ho7 hg0)
    have T7 := Lib.hid (T6.out.oth ho7 hg0)
    have P7 := Lib.hid (P6.out.oth ho7 hg0)
    have O7 := Lib.hid (O6.out.trans ho7)
    have Z7 := Lib.hid (ho7.blk Z6.out (by omega))
    have B7 := Lib.hid (ho7.blk B6.out (by omega))
    have C7 := Lib.hid hc7
    have hlb7 : b < w7.heap.size := by have := ho7.size; omega
    have hz7 : W0.heap.size ≤ w7.heap.size := by omega
    have hg7 := hc7.lt
    clear F6 T6 P6 O6 Z6 B6 C6 ho7 hc7 hlb6
    cases b7
    · have qd0 := B7.out.cell 0
      have qd1 := B7.out.cell 1
      have qd2 := B7.out.cell 2
      have qd3 := B7.out.cell 3
      simp only [List.getElem?_toArray, List.getElem?_cons_zero, List.getElem?_cons_succ] at qd0 qd1 qd2 qd3
      have qdf0 := B7.out.frozen 0
      have qdf1 := B7.out.frozen 1
      have qdf2 := B7.out.frozen 2
      have qdf3 := B7.out.frozen 3
      have qz0 := Z7.out.cell 0
      have qz1 := Z7.out.cell 1
      have qz2 := Z7.out.cell 2
      have qz3 := Z7.out.cell 3
      simp only [List.getElem?_toArray, List.getElem?_cons_zero, List.getElem?_cons_succ] at qz0 qz1 qz2 qz3
      have qzf0 := Z7.out.frozen 0
      have qzf1 := Z7.out.frozen 1
      have qzf2 := Z7.out.frozen 2
      have qzf3 := Z7.out.frozen 3
      clear B7
      have G0 := Lib.hid (put4 Z7.out (.slice A1 F.length c1) (.slice B1 T.length d1) (.int .i64 n) (.slice C5 P.length f5))
      have R1 := Lib.hid (ownF.base ((((F7.out.set (p := ⟨w.heap.size, 0, none⟩) (.inl hz0) (.slice A1 F.length c1)).set (p := ⟨w.heap.size, 1, none⟩) (.inl hz0) (.slice B1 T.length d1)).set (p := ⟨w.heap.size, 2, none⟩) (.inl hz0) (.int .i64 n)).set (p := ⟨w.heap.size, 3, none⟩) (.inl hz0) (.slice C5 P.length f5)) (Nat.le_of_lt hz0))
      have R2 := Lib.hid (ownF.base ((((T7.out.set (p := ⟨w.heap.size, 0, none⟩) (.inl hz0) (.slice A1 F.length c1)).set (p := ⟨w.heap.size, 1, none⟩) (.inl hz0) (.slice B1 T.length d1)).set (p := ⟨w.heap.size, 2, none⟩) (.inl hz0) (.int .i64 n)).set (p := ⟨w.heap.size, 3, none⟩) (.inl hz0) (.slice C5 P.length f5)) (Nat.le_of_lt hz0))
      have R3 := Lib.hid (ownP.base ((((P7.out.set (p := ⟨w.heap.size, 0, none⟩) (.inl hz0) (.slice A1 F.length c1)).set (p := ⟨w.heap.size, 1, none⟩) (.inl hz0) (.slice B1 T.length d1)).set (p := ⟨w.heap.size, 2, none⟩) (.inl hz0) (.int .i64 n)).set (p := ⟨w.heap.size, 3, none⟩) (.inl hz0) (.slice C5 P.length f5)) (Nat.le_of_lt hz0))
      have G2 := Lib.hid ((((C7.out.put1 (p := ⟨w.heap.size, 0, none⟩) (u := .slice A1 F.length c1) hlt0).put1 (p := ⟨w.heap.size, 1, none⟩) (u := .slice B1 T.length d1) hlt0).put1 (p := ⟨w.heap.size, 2, none⟩) (u := .int .i64 n) hlt0).put1 (p := ⟨w.heap.size, 3, none⟩) (u := .slice C5 P.length f5) hlt0)
      have G3 := Lib.hid ((((O7.out.set (p := ⟨w.heap.size, 0, none⟩) (.inr (Nat.le_refl _)) (.slice A1 F.length c1)).set (p := ⟨w.heap.size, 1, none⟩) (.inr (Nat.le_refl _)) (.slice B1 T.length d1)).set (p := ⟨w.heap.size, 2, none⟩) (.inr (Nat.le_refl _)) (.int .i64 n)).set (p := ⟨w.heap.size, 3, none⟩) (.inr (Nat.le_refl _)) (.slice C5 P.length f5))
      go_wp2_with fail
      generalize ((((w7.setCell ⟨w.heap.size, 0, none⟩ (.slice A1 F.length c1)).setCell ⟨w.heap.size, 1, none⟩ (.slice B1 T.length d1)).setCell ⟨w.heap.size, 2, none⟩ (.int .i64 n)).setCell ⟨w.heap.size, 3, none⟩ (.slice C5 P.length f5)) = WF at G0 R1 R2 R3 G2 G3 ⊢
      have C0 : WF.cell? ⟨w.heap.size, 0, none⟩ = some (.slice A1 F.length c1) := G0.out.cell 0
      have C1 : WF.cell? ⟨w.heap.size, 1, none⟩ = some (.slice B1 T.length d1) := G0.out.cell 1
      have C2 : WF.cell? ⟨w.heap.size, 2, none⟩ = some (.int .i64 n) := G0.out.cell 2
      have C3 : WF.cell? ⟨w.heap.size, 3, none⟩ = some (.slice C5 P.length f5) := G0.out.cell 3
      refine bodyPost_ret (v := .agg #[.slice A1 F.length c1, .slice B1 T.length d1, .int .i64 n, .slice C5 P.length f5]) (by simp [results, Tryz.results85, go_sem, C0, C1, C2, C3]) rfl ?_
      exact ⟨A1, c1, F, B1, d1, T, n, C5, f5, P, rfl, R1.out, R2.out, R3.out, ⟨n0, n2⟩, G2.out.mono (by omega), G3.out⟩
    · have d2 : w7.cell? ⟨b, 2, none⟩ = some (.int .i64 n) := B7.out.cell 2
      go_wp2_with fail
      refine (leastTransition_any A1 c1 F B1 d1 T n _ (Mem.of_own F7.out.2.1) (Mem.of_own T7.out.2.1) HOK.out hcf hct F7.out.2.2 T7.out.2.2).mono ?_
      rintro e w8 ⟨A8, c8, B8_, d8, C8_, f8, Q, rfl, hx1, hx2, hx3, hq8⟩
      have F8 := Lib.hid (hx1.base hz7)
      have T8 := Lib.hid (hx2.base hz7)
      have P8 := Lib.hid (hx3.base hz7)
      have nF := Lib.hid (show ∀ q, (Value.slice A8 F.length c8).ownBlock = some q → q ≠ b from fun q hq => by have := (hx1.2.1.lt q hq).1; omega)
      have nT := Lib.hid (show ∀ q, (Value.slice B8_ T.length d8).ownBlock = some q → q ≠ b from fun q hq => by have := (hx2.2.1.lt q hq).1; omega)
      have nP := Lib.hid (show ∀ q, (Value.slice C8_ Q.length f8).ownBlock = some q → q ≠ b from fun q hq => by have := (hx3.2.lt q hq).1; omega)
      have O8 := Lib.hid (O7.out.trans (Oth.of_below hq8))
      have Z8 := Lib.hid (Z7.out.below hq8 (by omega))
      have B8 := Lib.hid (B7.out.below hq8 hlb7)
      have C8 := Lib.hid (C7.out.below hq8 hg7)
      clear hx1 hx2 hx3 hq8 F7 T7 P7 O7 Z7 B7 C7 d2
      have F9 := Lib.hid ((((F8.out.set (p := ⟨b, 0, none⟩) (.inr nF.out) (.slice A8 F.length c8)).set (p := ⟨b, 1, none⟩) (.inr nF.out) (.slice B8_ T.length d8)).set (p := ⟨b, 2, none⟩) (.inr nF.out) (.int .i64 n)).set (p := ⟨b, 3, none⟩) (.inr nF.out) (.slice C8_ Q.length f8))
      have T9 := Lib.hid ((((T8.out.set (p := ⟨b, 0, none⟩) (.inr nT.out) (.slice A8 F.length c8)).set (p := ⟨b, 1, none⟩) (.inr nT.out) (.slice B8_ T.length d8)).set (p := ⟨b, 2, none⟩) (.inr nT.out) (.int .i64 n)).set (p := ⟨b, 3, none⟩) (.inr nT.out) (.slice C8_ Q.length f8))
      have P9 := Lib.hid ((((P8.out.set (p := ⟨b, 0, none⟩) (.inr nP.out) (.slice A8 F.length c8)).set (p := ⟨b, 1, none⟩) (.inr nP.out) (.slice B8_ T.length d8)).set (p := ⟨b, 2, none⟩) (.inr nP.out) (.int .i64 n)).set (p := ⟨b, 3, none⟩) (.inr nP.out) (.slice C8_ Q.length f8))
      have O9 := Lib.hid ((((O8.out.set (p := ⟨b, 0, none⟩) (.inr (Nat.le_of_lt hzb)) (.slice A8 F.length c8)).set (p := ⟨b, 1, none⟩) (.inr (Nat.le_of_lt hzb)) (.slice B8_ T.length d8)).set (p := ⟨b, 2, none⟩) (.inr (Nat.le_of_lt hzb)) (.int .i64 n)).set (p := ⟨b, 3, none⟩) (.inr (Nat.le_of_lt hzb)) (.slice C8_ Q.length f8))
      have Z9 := Lib.hid ((((Z8.out.other (g' := b) (j := 0) (by omega) (.slice A8 F.length c8)).other (g' := b) (j := 1) (by omega) (.slice B8_ T.length d8)).other (g' := b) (j := 2) (by omega) (.int .i64 n)).other (g' := b) (j := 3) (by omega) (.slice C8_ Q.length f8))
      have C9 := Lib.hid ((((C8.out.put1 (p := ⟨b, 0, none⟩) (u := .slice A8 F.length c8) hgb).put1 (p := ⟨b, 1, none⟩) (u := .slice B8_ T.length d8) hgb).put1 (p := ⟨b, 2, none⟩) (u := .int .i64 n) hgb).put1 (p := ⟨b, 3, none⟩) (u := .slice C8_ Q.length f8) hgb)
      have B9 := Lib.hid (put4 B8.out (.slice A8 F.length c8) (.slice B8_ T.length d8) (.int .i64 n) (.slice C8_ Q.length f8))
      have qu0 := B8.out.cell 0
      have qu1 := B8.out.cell 1
      have qu2 := B8.out.cell 2
      have qu3 := B8.out.cell 3
      simp only [List.getElem?_toArray, List.getElem?_cons_zero, List.getElem?_cons_succ] at qu0 qu1 qu2 qu3
      have quf0 := B8.out.frozen 0
      have quf1 := B8.out.frozen 1
      have quf2 := B8.out.frozen 2
      have quf3 := B8.out.frozen 3
      go_upto_region 5 with (fail)
      clear B8 F8 T8 P8 O8 Z8 C8 qu0 quf0 qu1 quf1 qu2 quf2 qu3 quf3
      generalize ((((w8.setCell ⟨b, 0, none⟩ (.slice A8 F.length c8)).setCell ⟨b, 1, none⟩ (.slice B8_ T.length d8)).setCell ⟨b, 2, none⟩ (.int .i64 n)).setCell ⟨b, 3, none⟩ (.slice C8_ Q.length f8)) = w9 at F9 T9 P9 O9 Z9 C9 B9 ⊢
      have qd0 := B9.out.cell 0
      have qd1 := B9.out.cell 1
      have qd2 := B9.out.cell 2
      have qd3 := B9.out.cell 3
      simp only [List.getElem?_toArray, List.getElem?_cons_zero, List.getElem?_cons_succ] at qd0 qd1 qd2 qd3
      have qdf0 := B9.out.frozen 0
      have qdf1 := B9.out.frozen 1
      have qdf2 := B9.out.frozen 2
      have qdf3 := B9.out.frozen 3
      have qz0 := Z9.out.cell 0
      have qz1 := Z9.out.cell 1
      have qz2 := Z9.out.cell 2
      have qz3 := Z9.out.cell 3
      simp only [List.getElem?_toArray, List.getElem?_cons_zero, List.getElem?_cons_succ] at qz0 qz1 qz2 qz3
      have qzf0 := Z9.out.frozen 0
      have qzf1 := Z9.out.frozen 1
      have qzf2 := Z9.out.frozen 2
      have qzf3 := Z9.out.frozen 3
      clear B9
      have G0 := Lib.hid (put4 Z9.out (.slice A8 F.length c8) (.slice B8_ T.length d8) (.int .i64 n) (.slice C8_ Q.length f8))
      have R1 := Lib.hid (ownF.base ((((F9.out.set (p := ⟨w.heap.size, 0, none⟩) (.inl hz0) (.slice A8 F.length c8)).set (p := ⟨w.heap.size, 1, none⟩) (.inl hz0) (.slice B8_ T.length d8)).set (p := ⟨w.heap.size, 2, none⟩) (.inl hz0) (.int .i64 n)).set (p := ⟨w.heap.size, 3, none⟩) (.inl hz0) (.slice C8_ Q.length f8)) (Nat.le_of_lt hz0))
      have R2 := Lib.hid (ownF.base ((((T9.out.set (p := ⟨w.heap.size, 0, none⟩) (.inl hz0) (.slice A8 F.length c8)).set (p := ⟨w.heap.size, 1, none⟩) (.inl hz0) (.slice B8_ T.length d8)).set (p := ⟨w.heap.size, 2, none⟩) (.inl hz0) (.int .i64 n)).set (p := ⟨w.heap.size, 3, none⟩) (.inl hz0) (.slice C8_ Q.length f8)) (Nat.le_of_lt hz0))
      have R3 := Lib.hid (ownP.base ((((P9.out.set (p := ⟨w.heap.size, 0, none⟩) (.inl hz0) (.slice A8 F.length c8)).set (p := ⟨w.heap.size, 1, none⟩) (.inl hz0) (.slice B8_ T.length d8)).set (p := ⟨w.heap.size, 2, none⟩) (.inl hz0) (.int .i64 n)).set (p := ⟨w.heap.size, 3, none⟩) (.inl hz0) (.slice C8_ Q.length f8)) (Nat.le_of_lt hz0))
      have G2 := Lib.hid ((((C9.out.put1 (p := ⟨w.heap.size, 0, none⟩) (u := .slice A8 F.length c8) hlt0).put1 (p := ⟨w.heap.size, 1, none⟩) (u := .slice B8_ T.length d8) hlt0).put1 (p := ⟨w.heap.size, 2, none⟩) (u := .int .i64 n) hlt0).put1 (p := ⟨w.heap.size, 3, none⟩) (u := .slice C8_ Q.length f8) hlt0)
      have G3 := Lib.hid ((((O9.out.set (p := ⟨w.heap.size, 0, none⟩) (.inr (Nat.le_refl _)) (.slice A8 F.length c8)).set (p := ⟨w.heap.size, 1, none⟩) (.inr (Nat.le_refl _)) (.slice B8_ T.length d8)).set (p := ⟨w.heap.size, 2, none⟩) (.inr (Nat.le_refl _)) (.int .i64 n)).set (p := ⟨w.heap.size, 3, none⟩) (.inr (Nat.le_refl _)) (.slice C8_ Q.length f8))
      go_wp2_with fail
      generalize ((((w9.setCell ⟨w.heap.size, 0, none⟩ (.slice A8 F.length c8)).setCell ⟨w.heap.size, 1, none⟩ (.slice B8_ T.length d8)).setCell ⟨w.heap.size, 2, none⟩ (.int .i64 n)).setCell ⟨w.heap.size, 3, none⟩ (.slice C8_ Q.length f8)) = WF at G0 R1 R2 R3 G2 G3 ⊢
      have C0 : WF.cell? ⟨w.heap.size, 0, none⟩ = some (.slice A8 F.length c8) := G0.out.cell 0
      have C1 : WF.cell? ⟨w.heap.size, 1, none⟩ = some (.slice B8_ T.length d8) := G0.out.cell 1
      have C2 : WF.cell? ⟨w.heap.size, 2, none⟩ = some (.int .i64 n) := G0.out.cell 2
      have C3 : WF.cell? ⟨w.heap.size, 3, none⟩ = some (.slice C8_ Q.length f8) := G0.out.cell 3
      refine bodyPost_ret (v := .agg #[.slice A8 F.length c8, .slice B8_ T.length d8, .int .i64 n, .slice C8_ Q.length f8]) (by simp [results, Tryz.results85, go_sem, C0, C1, C2, C3]) rfl ?_
      exact ⟨A8, c8, F, B8_, d8, T, n, C8_, f8, Q, rfl, R1.out, R2.out, R3.out, ⟨n0, n2⟩, G2.out.mono (by omega), G3.out⟩

end Go.Proofs.YthehcjfljjfnmaaGreat
