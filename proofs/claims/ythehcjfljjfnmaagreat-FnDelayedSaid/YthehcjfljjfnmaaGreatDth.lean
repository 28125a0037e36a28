/-
  Draws: a transition.
-/
import Derived.Test.YthehcjfljjfnmaaGreatDtg
import Derived.Test.YthehcjfljjfnmaaGreatBase
namespace Go.Proofs.YthehcjfljjfnmaaGreat
open Go.RowKit

/-- Places that a call has laid behind w. -/
def ownP (w w' : World) (A' : Option Addr) (c' : Nat) (L : List Int) : Prop := L.length ≤ 14 ∧ w'.ownsRow w.heap.size 3 1 (.slice A' L.length c') L.length (ints L)
theorem ownP.base {w a w' : World} {A' : Option Addr} {c' : Nat} {L : List Int} (h : ownP a w' A' c' L) (hb : w.heap.size ≤ a.heap.size) : ownP w w' A' c' L := ⟨h.1, own_base h.2 hb⟩
theorem ownP.oth {w w' w'' : World} {g : Nat} {A' : Option Addr} {c' : Nat} {L : List Int} (h : ownP w w' A' c' L) (ho : Oth g w' w'') (hg : g < w.heap.size) : ownP w w'' A' c' L := ⟨h.1, ho.own h.2 hg⟩
theorem ownP.below {w w' w'' : World} {A' : Option Addr} {c' : Nat} {L : List Int} (h : ownP w w' A' c' L) (hb : Below w'.heap.size w' w'') : ownP w w'' A' c' L := ⟨h.1, own_below h.2 hb⟩
theorem ownF.set {w w' : World} {A' : Option Addr} {c' : Nat} {L : List Sp} {p : Addr} (h : ownF w w' A' c' L) (hne : p.block < w.heap.size ∨ ∀ q, (Value.slice A' L.length c').ownBlock = some q → q ≠ p.block) (u : Value) : ownF w (w'.setCell p u) A' c' L :=
  ⟨h.1, own_other h.2.1 (fun j hj => by rcases hne with h1 | h1
                                        · have := (h.2.1.lt j hj).1; omega
                                        · exact h1 j hj), h.2.2⟩
theorem ownP.set {w w' : World} {A' : Option Addr} {c' : Nat} {L : List Int} {p : Addr} (h : ownP w w' A' c' L) (hne : p.block < w.heap.size ∨ ∀ q, (Value.slice A' L.length c').ownBlock = some q → q ≠ p.block) (u : Value) : ownP w (w'.setCell p u) A' c' L :=
  ⟨h.1, own_other h.2 (fun j hj => by rcases hne with h1 | h1
                                      · have := (h.2.lt j hj).1; omega
                                      · exact h1 j hj)⟩
theorem put4 {w : World} {z : Nat} {a0 a1 a2 a3 : Value} {t : TypeId} (h : Blk w z #[a0, a1, a2, a3] t) (v0 v1 v2 v3 : Value) : Blk ((((w.setCell ⟨z, 0, none⟩ v0).setCell ⟨z, 1, none⟩ v1).setCell ⟨z, 2, none⟩ v2).setCell ⟨z, 3, none⟩ v3) z #[v0, v1, v2, v3] t := by
  simpa using (((h.set 0 v0).set 1 v1).set 2 v2).set 3 v3
def askOk (F T : List Sp) (n : Int) : Bool := ((chOk F && chOk T) && decide (F.length = T.length)) && inR n 1 64
set_option maxRecDepth 100000 in
theorem asAsked_any (A : Option Addr) (c : Nat) (F : List Sp) (B : Option Addr) (d : Nat) (T : List Sp) (n : Int) (w : World) (hf : Mem w A (spots F)) (ht : Mem w B (spots T)) (lf : F.length ≤ 1048576) (lt : T.length ≤ 1048576) (hfc : F.length ≤ c) (htc : T.length ≤ d) : Calls Tryz.prog 91 #[.slice A F.length c, .slice B T.length d, .int .i64 n] w fun e w' => e = .returned (.bool (askOk F T n)) ∧ Below w.heap.size w w' := by
  have e0 : Hid (askOk F T n = (((chOk F && chOk T) && decide (F.length = T.length)) && inR n 1 64)) := Lib.hid rfl
  cases h1 : ((chOk F && chOk T) && decide (F.length = T.length))
  all_goals
    have H1 := Lib.hid h1
    clear h1
    go_enter Tryz.func91, Tryz.ntmps91
    go_wp2_with fail
    refine (chPair_any A c F B d T _ hf ht lf lt hfc htc).mono ?_
    rintro e w1 ⟨he, hq⟩
    rw [H1.out] at he
    subst he
    go_wp2_with (go_at_call 45; refine (l1In_any _ _ _ _).mono ?_; rintro e w' ⟨rfl, rfl⟩)
    go_ret
    exact ⟨by rw [e0.out, H1.out]; simp, hq⟩
theorem l1OwnM_any (A : Option Addr) (c : Nat) (L : List Int) (w : World) (hm : Mem w A (ints L)) (hl : L.length ≤ 1048576) (h0 : 0 < L.length) : Calls Tryz.prog 93 #[.slice A L.length c] w fun e w' =>
    ∃ A' c', e = .returned (.slice A' L.length c') ∧ w'.ownsRow w.heap.size 3 1 (.slice A' L.length c') L.length (ints L) ∧ Below w.heap.size w w' := by
  obtain ⟨b, off, rfl, hc⟩ := hm (by intro h; have := ints_len L; rw [h] at this; simp at this; omega)
  have h := l1OwnT_any b off c L.length L w hm (Nat.le_refl _) hl
  rw [List.take_length] at h
  exact h
/-- A transition in memory of the call's own. -/
def RetTw (w : World) (F T : List Sp) (n : Int) (P : List Int) (e : Ending) (w' : World) : Prop :=
  ∃ A c B d C f, e = .returned (.agg #[.slice A F.length c, .slice B T.length d, .int .i64 n, .slice C P.length f]) ∧ ownF w w' A c F ∧ ownF w w' B d T ∧ ownP w w' C f P ∧ Below w.heap.size w w'
set_option maxHeartbeats 6400000 in
set_option maxRecDepth 100000 in
theorem asWith_any (A : Option Addr) (c : Nat) (F : List Sp) (B : Option Addr) (d : Nat) (T : List Sp) (n : Int) (C : Option Addr) (f : Nat) (P : List Int) (w : World) (hf : Mem w A (spots F)) (ht : Mem w B (spots T)) (hp : Mem w C (ints P)) (lf : 0 < F.length ∧ F.length ≤ 13) (lt : 0 < T.length ∧ T.length ≤ 13) (lp : 0 < P.length ∧ P.length ≤ 14) (sF : ∀ s ∈ F, smSp s) (sT : ∀ s ∈ T, smSp s) :
    Calls Tryz.prog 105 #[.slice A F.length c, .slice B T.length d, .int .i64 n, .slice C P.length f] w (RetTw w F T n P) := by
  have HF := Lib.hid hf
  have HT := Lib.hid ht
  have HP := Lib.hid hp
  have HZ := Lib.hid (Blk.new w #[.slice none 0 0, .slice none 0 0, .int .i64 0, .slice none 0 0] 34)
  have HB := Lib.hid (below_alloc w (.cells #[.slice none 0 0, .slice none 0 0, .int .i64 0, .slice none 0 0] 34))
  have hz0 : w.heap.size < (w.alloc (.cells #[.slice none 0 0, .slice none 0 0, .int .i64 0, .slice none 0 0] 34)).heap.size := by simp
  clear hf ht hp
  go_enter Tryz.func105, Tryz.ntmps105
  go_wp2_with fail
  generalize (w.alloc (.cells #[.slice none 0 0, .slice none 0 0, .int .i64 0, .slice none 0 0] 34)) = W0 at *
  refine (chOwn_any A c F _ (HF.out.below HB.out) (by omega) lf.1).mono ?_
  rintro e w1 ⟨A1, c1, rfl, ho1, hq1⟩
  have O1 := Lib.hid ho1
  have B1 := Lib.hid (HB.out.trans (hq1.mono HB.out.size))
  have Z1 := Lib.hid (HZ.out.below hq1 (by omega))
  have z1 := hq1.size
  clear ho1 hq1
  go_wp2_with fail
  refine (chOwn_any B d T _ (HT.out.below B1.out) (by omega) lt.1).mono ?_
  rintro e w2 ⟨A2, c2, rfl, ho2, hq2⟩
  have O2 := Lib.hid (own_base ho2 z1)
  have P1 := Lib.hid (own_below O1.out hq2)
  have B2 := Lib.hid (B1.out.trans (hq2.mono B1.out.size))
  have Z2 := Lib.hid (Z1.out.below hq2 (by omega))
  have z2 := hq2.size
  clear ho2 hq2 O1 B1 Z1
  go_wp2_with fail
  refine (l1OwnM_any C f P _ (HP.out.below B2.out) (by omega) lp.1).mono ?_
  rintro e w3 ⟨A3, c3, rfl, ho3, hq3⟩
  have Q3 := Lib.hid (own_base ho3 (Nat.le_trans z1 z2))
  have Q2 := Lib.hid (own_below O2.out hq3)
  have Q1 := Lib.hid (own_below P1.out hq3)
  have B3 := Lib.hid (B2.out.trans (hq3.mono B2.out.size))
  have Z3 := Lib.hid (Z2.out.below hq3 (by omega))
  clear ho3 hq3 O2 P1 B2 Z2 HF HT HP HZ HB
  have x0 := Z3.out.cell 0
  have x1 := Z3.out.cell 1
  have x2 := Z3.out.cell 2
  have x3 := Z3.out.cell 3
  simp only [List.getElem?_toArray, List.getElem?_cons_zero, List.getElem?_cons_succ] at x0 x1 x2 x3
  have y0 := Z3.out.frozen 0
  have y1 := Z3.out.frozen 1
  have y2 := Z3.out.frozen 2
  have y3 := Z3.out.frozen 3
  have hlt : w.heap.size < W0.heap.size := hz0
  have G0 := Lib.hid (put4 Z3.out (.slice A1 F.length c1) (.slice A2 T.length c2) (.int .i64 n) (.slice A3 P.length c3))
  have G1 := Lib.hid ((((B3.out.setCell (p := ⟨w.heap.size, 0, none⟩) (Nat.le_refl _) (.slice A1 F.length c1)).setCell (p := ⟨w.heap.size, 1, none⟩) (Nat.le_refl _) (.slice A2 T.length c2)).setCell (p := ⟨w.heap.size, 2, none⟩) (Nat.le_refl _) (.int .i64 n)).setCell (p := ⟨w.heap.size, 3, none⟩) (Nat.le_refl _) (.slice A3 P.length c3))
  have nf : ∀ {e : TypeId} {size : Nat} {v : Value} {m : Nat} {xs : List Value}, w3.ownsRow W0.heap.size e size v m xs → ∀ (v0 v1 v2 v3 : Value), ((((w3.setCell ⟨w.heap.size, 0, none⟩ v0).setCell ⟨w.heap.size, 1, none⟩ v1).setCell ⟨w.heap.size, 2, none⟩ v2).setCell ⟨w.heap.size, 3, none⟩ v3).ownsRow w.heap.size e size v m xs := by
    intro e size v m xs h v0 v1 v2 v3
    have hb : ∀ j, v.ownBlock = some j → j ≠ w.heap.size := fun j hj => by have := (h.lt j hj).1; omega
    exact own_base (own_other (own_other (own_other (own_other h hb) hb) hb) hb) (Nat.le_of_lt hlt)
  have R1 := Lib.hid (nf Q1.out (.slice A1 F.length c1) (.slice A2 T.length c2) (.int .i64 n) (.slice A3 P.length c3))
  have R2 := Lib.hid (nf Q2.out (.slice A1 F.length c1) (.slice A2 T.length c2) (.int .i64 n) (.slice A3 P.length c3))
  have R3 := Lib.hid (nf Q3.out (.slice A1 F.length c1) (.slice A2 T.length c2) (.int .i64 n) (.slice A3 P.length c3))
  clear nf Q1 Q2 Q3 B3 Z3
  go_wp2_with fail
  generalize ((((w3.setCell ⟨w.heap.size, 0, none⟩ (.slice A1 F.length c1)).setCell ⟨w.heap.size, 1, none⟩ (.slice A2 T.length c2)).setCell ⟨w.heap.size, 2, none⟩ (.int .i64 n)).setCell ⟨w.heap.size, 3, none⟩ (.slice A3 P.length c3)) = WF at G0 G1 R1 R2 R3 ⊢
  have C0 : WF.cell? ⟨w.heap.size, 0, none⟩ = some (.slice A1 F.length c1) := G0.out.cell 0
  have C1 : WF.cell? ⟨w.heap.size, 1, none⟩ = some (.slice A2 T.length c2) := G0.out.cell 1
  have C2 : WF.cell? ⟨w.heap.size, 2, none⟩ = some (.int .i64 n) := G0.out.cell 2
  have C3 : WF.cell? ⟨w.heap.size, 3, none⟩ = some (.slice A3 P.length c3) := G0.out.cell 3
  refine bodyPost_ret (v := .agg #[.slice A1 F.length c1, .slice A2 T.length c2, .int .i64 n, .slice A3 P.length c3]) (by simp [results, Tryz.results105, go_sem, C0, C1, C2, C3]) rfl ?_
  exact ⟨A1, c1, A2, c2, A3, c3, rfl, ⟨lf.2, R1.out, sF⟩, ⟨lt.2, R2.out, sT⟩, ⟨lp.2, R3.out⟩, G1.out⟩


theorem askOk_iff {F T : List Sp} {n : Int} : askOk F T n = true ↔ chOk F = true ∧ chOk T = true ∧ F.length = T.length ∧ 1 ≤ n ∧ n ≤ 64 := by
  simp only [askOk, Bool.and_eq_true, decide_eq_true_eq, inR_iff, and_assoc]
theorem chOk_len {F : List Sp} (h : chOk F = true) : 1 ≤ F.length ∧ F.length ≤ 12 := by
  rw [chOk, Bool.and_eq_true, inR_iff] at h
  omega
theorem acF_bd {F T : List Sp} (hF : F.all isSp = true) (hT : T.all isSp = true) : ∀ i k, i < F.length → k < T.length → 0 ≤ acF F T i k ∧ acF F T i k ≤ 2100000 := by
  intro i k hi hk
  obtain ⟨s, hs⟩ := some_of_lt hi
  obtain ⟨t, ht⟩ := some_of_lt hk
  rw [acF_at hs ht]
  have := sq_bd (all_at hF hs) (all_at hT ht)
  omega
/-- A transition in memory of the call's own, and true. -/
def RetTwB (w : World) (F T : List Sp) (n : Int) (e : Ending) (w' : World) : Prop :=
  ∃ A c B d C f P, e = .returned (.tuple #[.agg #[.slice A F.length c, .slice B T.length d, .int .i64 n, .slice C P.length f], .bool true]) ∧ ownF w w' A c F ∧ ownF w w' B d T ∧ ownP w w' C f P ∧ Below w.heap.size w w'
set_option maxHeartbeats 6400000 in
set_option maxRecDepth 100000 in
theorem leastTransition_any (A : Option Addr) (c : Nat) (F : List Sp) (B : Option Addr) (d : Nat) (T : List Sp) (n : Int) (w : World) (hf : Mem w A (spots F)) (ht : Mem w B (spots T)) (hok : askOk F T n = true) (hfc : F.length ≤ c) (htc : T.length ≤ d) (sF : ∀ s ∈ F, smSp s) (sT : ∀ s ∈ T, smSp s) :
    Calls Tryz.prog 92 #[.slice A F.length c, .slice B T.length d, .int .i64 n] w (RetTwB w F T n) := by
  obtain ⟨g1, g2, g3, g4, g5⟩ := askOk_iff.1 hok
  have hl := chOk_len g1
  have hbd := acF_bd (ch_all g1) (ch_all g2)
  rw [← g3] at hbd
  obtain ⟨m, hm⟩ : ∃ m, F.length = m := ⟨_, rfl⟩
  rw [hm] at hbd
  have HBD := Lib.hid hbd
  have HMS := Lib.hid ((mlS_spec (c := acF F T) (n := m) (by omega) hbd m (Nat.le_refl _)).2.2)
  have AF := Lib.hid (ch_all g1)
  have AT := Lib.hid (ch_all g2)
  have HOK := Lib.hid hok
  have HF := Lib.hid hf
  have HT := Lib.hid ht
  have HZ := Lib.hid (Blk.new w #[.slice none 0 0, .slice none 0 0, .int .i64 0, .slice none 0 0] 34)
  have HB := Lib.hid (below_alloc w (.cells #[.slice none 0 0, .slice none 0 0, .int .i64 0, .slice none 0 0] 34))
  have hz0 : w.heap.size < (w.alloc (.cells #[.slice none 0 0, .slice none 0 0, .int .i64 0, .slice none 0 0] 34)).heap.size := by simp
  have HMM := Lib.hid hm
  have HTM := Lib.hid (show T.length = m by omega)
  clear hf ht hok hbd g1 g2 g3
  have hl2 : 1 ≤ m ∧ m ≤ 12 := by omega
  have hl4 : T.length ≤ 1048576 := by have := HTM.out; omega
  have hl5 : F.length ≤ 1048576 := by omega
  clear hm hl
  go_enter Tryz.func92, Tryz.ntmps92
  go_wp2_with fail
  generalize (w.alloc (.cells #[.slice none 0 0, .slice none 0 0, .int .i64 0, .slice none 0 0] 34)) = W0 at *
  refine (asAsked_any A c F B d T n _ (HF.out.below HB.out) (HT.out.below HB.out) hl5 hl4 hfc htc).mono ?_
  rintro e w1 ⟨he, hq1⟩
  rw [HOK.out] at he
  subst he
  have B1 := Lib.hid (HB.out.trans (hq1.mono HB.out.size))
  have Z1 := Lib.hid (HZ.out.below hq1 (by omega))
  have z1 := hq1.size
  clear hq1 HZ HB
  rw [HMM.out, HTM.out]
  go_wp2_with fail
  refine (asCosts_any A c F B d T m _ (HF.out.below B1.out) (HT.out.below B1.out) HMM.out HTM.out (by omega) (List.all_eq_true.1 AF.out) (List.all_eq_true.1 AT.out)).mono ?_
  rintro e w2 ⟨A2, c2, hs, rfl, hC2, hq2⟩
  have K2 := Lib.hid hC2.cst
  have B2 := Lib.hid (B1.out.trans (hq2.mono B1.out.size))
  have Z2 := Lib.hid (Z1.out.below hq2 (by omega))
  have z2 := hq2.size
  clear hC2 hq2 B1 Z1
  go_wp2_with fail
  refine (maLeast_any A2 c2 m hs (acF F T) _ (by omega) (by omega) K2.out HBD.out).mono ?_
  rintro e w3 ⟨A3, c3, rfl, ho3, hq3⟩
  obtain ⟨P, hP⟩ : ∃ P, (mlS (acF F T) m m).2 = P := ⟨_, rfl⟩
  rw [hP] at ho3 HMS
  rw [← HMS.out] at ho3
  have M3 := Lib.hid (Mem.of_own ho3)
  rw [HMS.out] at ho3
  have B3 := Lib.hid (B2.out.trans (hq3.mono B2.out.size))
  have Z3 := Lib.hid (Z2.out.below hq3 (by omega))
  have z3 := hq3.size
  clear ho3 hq3 hP K2 B2 Z2
  go_wp2_with fail
  have hA := asWith_any A c F B d T n A3 c3 P w3 (HF.out.below B3.out) (HT.out.below B3.out) M3.out (by have := HMM.out; omega) (by have := HTM.out; omega) (by have := HMS.out; omega) sF sT
  rw [HMM.out, HTM.out, HMS.out] at hA
  refine hA.mono ?_
  rintro e w4 ⟨A4, c4, B4, d4, C4, f4, rfl, hx1, hx2, hx3, hq4⟩
  clear hA
  have X1 := Lib.hid hx1
  have X2 := Lib.hid hx2
  have X3 := Lib.hid hx3
  have B4_ := Lib.hid (B3.out.trans (hq4.mono B3.out.size))
  have Z4_ := Lib.hid (Z3.out.below hq4 (by omega))
  have hz3 : w.heap.size < w3.heap.size := by omega
  clear hx1 hx2 hx3 hq4 B3 Z3
  have x0 := Z4_.out.cell 0
  have x1 := Z4_.out.cell 1
  have x2 := Z4_.out.cell 2
  have x3 := Z4_.out.cell 3
  simp only [List.getElem?_toArray, List.getElem?_cons_zero, List.getElem?_cons_succ] at x0 x1 x2 x3
  have y0 := Z4_.out.frozen 0
  have y1 := Z4_.out.frozen 1
  have y2 := Z4_.out.frozen 2
  have y3 := Z4_.out.frozen 3
  rw [HMM.out, HTM.out, HMS.out]
  have G0 := Lib.hid (put4 Z4_.out (.slice A4 m c4) (.slice B4 m d4) (.int .i64 n) (.slice C4 m f4))
  have G1 := Lib.hid ((((B4_.out.setCell (p := ⟨w.heap.size, 0, none⟩) (Nat.le_refl _) (.slice A4 m c4)).setCell (p := ⟨w.heap.size, 1, none⟩) (Nat.le_refl _) (.slice B4 m d4)).setCell (p := ⟨w.heap.size, 2, none⟩) (Nat.le_refl _) (.int .i64 n)).setCell (p := ⟨w.heap.size, 3, none⟩) (Nat.le_refl _) (.slice C4 m f4))
  have R1 := Lib.hid (((((X1.out.set (p := ⟨w.heap.size, 0, none⟩) (.inl hz3) (.slice A4 m c4)).set (p := ⟨w.heap.size, 1, none⟩) (.inl hz3) (.slice B4 m d4)).set (p := ⟨w.heap.size, 2, none⟩) (.inl hz3) (.int .i64 n)).set (p := ⟨w.heap.size, 3, none⟩) (.inl hz3) (.slice C4 m f4)).base (Nat.le_of_lt hz3))
  have R2 := Lib.hid (((((X2.out.set (p := ⟨w.heap.size, 0, none⟩) (.inl hz3) (.slice A4 m c4)).set (p := ⟨w.heap.size, 1, none⟩) (.inl hz3) (.slice B4 m d4)).set (p := ⟨w.heap.size, 2, none⟩) (.inl hz3) (.int .i64 n)).set (p := ⟨w.heap.size, 3, none⟩) (.inl hz3) (.slice C4 m f4)).base (Nat.le_of_lt hz3))
  have R3 := Lib.hid (((((X3.out.set (p := ⟨w.heap.size, 0, none⟩) (.inl hz3) (.slice A4 m c4)).set (p := ⟨w.heap.size, 1, none⟩) (.inl hz3) (.slice B4 m d4)).set (p := ⟨w.heap.size, 2, none⟩) (.inl hz3) (.int .i64 n)).set (p := ⟨w.heap.size, 3, none⟩) (.inl hz3) (.slice C4 m f4)).base (Nat.le_of_lt hz3))
  clear X1 X2 X3 B4_ Z4_
  go_wp2_with fail
  generalize ((((w4.setCell ⟨w.heap.size, 0, none⟩ (.slice A4 m c4)).setCell ⟨w.heap.size, 1, none⟩ (.slice B4 m d4)).setCell ⟨w.heap.size, 2, none⟩ (.int .i64 n)).setCell ⟨w.heap.size, 3, none⟩ (.slice C4 m f4)) = WF at G0 G1 R1 R2 R3 ⊢
  have C0 : WF.cell? ⟨w.heap.size, 0, none⟩ = some (.slice A4 m c4) := G0.out.cell 0
  have C1 : WF.cell? ⟨w.heap.size, 1, none⟩ = some (.slice B4 m d4) := G0.out.cell 1
  have C2 : WF.cell? ⟨w.heap.size, 2, none⟩ = some (.int .i64 n) := G0.out.cell 2
  have C3 : WF.cell? ⟨w.heap.size, 3, none⟩ = some (.slice C4 m f4) := G0.out.cell 3
  refine bodyPost_ret (v := .tuple #[.agg #[.slice A4 m c4, .slice B4 m d4, .int .i64 n, .slice C4 m f4], .bool true]) (by simp [results, Tryz.results92, go_sem, C0, C1, C2, C3]) rfl ?_
  exact ⟨A4, c4, B4, d4, C4, f4, P, by rw [HMM.out, HTM.out, HMS.out], R1.out, R2.out, R3.out, G1.out⟩

end Go.Proofs.YthehcjfljjfnmaaGreat
