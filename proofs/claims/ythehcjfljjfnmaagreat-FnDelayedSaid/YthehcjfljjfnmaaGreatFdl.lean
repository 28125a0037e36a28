/-
  The walk of the law of delays.
-/
import Derived.Test.YthehcjfljjfnmaaGreatFdu
import Derived.Test.YthehcjfljjfnmaaGreatDtl
import Derived.Test.YthehcjfljjfnmaaGreatDmy
import Derived.Test.YthehcjfljjfnmaaGreatBase
import Derived.Deep.DeepCutAuto
namespace Go.Proofs.YthehcjfljjfnmaaGreat
open Go.RowKit
open Go.Sort (grow)

theorem code_of {w : World} {A : Option Addr} {L : List Int} {c : Nat} (hm : Mem w A (L.flatMap fun n => [Value.int .u8 n])) (ho : ∀ x ∈ L, okByte x) (h1 : L.length ≤ c) (h2 : c ≤ maxLen) : code w A L :=
  ⟨hm, fun x hx => by have := ho x hx; unfold okByte at this; omega, by unfold maxLen at h2; omega⟩
/-- A box with a move. -/
def BM (w : World) (b : Nat) (m : Mv) : Prop := Blk w b #[.int .i64 m.f.x, .int .i64 m.f.y, .int .i64 m.t.x, .int .i64 m.t.y, .int .i64 m.c] 26
theorem BM.below {w w' : World} {b : Nat} {m : Mv} (h : BM w b m) (hq : Below w.heap.size w w') : BM w' b m := Blk.below h hq (Blk.lt h)
theorem BM.cells {w : World} {b : Nat} {m : Mv} (h : BM w b m) : w.cell? ⟨b, 0, none⟩ = some (.int .i64 m.f.x) ∧ w.cell? ⟨b, 1, none⟩ = some (.int .i64 m.f.y) ∧ w.cell? ⟨b, 2, none⟩ = some (.int .i64 m.t.x) ∧ w.cell? ⟨b, 3, none⟩ = some (.int .i64 m.t.y) ∧ w.cell? ⟨b, 4, none⟩ = some (.int .i64 m.c) :=
  ⟨Blk.cell h 0, Blk.cell h 1, Blk.cell h 2, Blk.cell h 3, Blk.cell h 4⟩
theorem BM.new (w : World) (m : Mv) : BM (w.alloc (.cells #[.int .i64 m.f.x, .int .i64 m.f.y, .int .i64 m.t.x, .int .i64 m.t.y, .int .i64 m.c] 26)) w.heap.size m := Blk.new w _ _
theorem BM.two (w : World) (m n : Mv) : BM ((w.alloc (.cells #[.int .i64 m.f.x, .int .i64 m.f.y, .int .i64 m.t.x, .int .i64 m.t.y, .int .i64 m.c] 26)).alloc (.cells #[.int .i64 n.f.x, .int .i64 n.f.y, .int .i64 n.t.x, .int .i64 n.t.y, .int .i64 n.c] 26)) w.heap.size m ∧ BM ((w.alloc (.cells #[.int .i64 m.f.x, .int .i64 m.f.y, .int .i64 m.t.x, .int .i64 m.t.y, .int .i64 m.c] 26)).alloc (.cells #[.int .i64 n.f.x, .int .i64 n.f.y, .int .i64 n.t.x, .int .i64 n.t.y, .int .i64 n.c] 26)) (w.heap.size + 1) n ∧ Below w.heap.size w ((w.alloc (.cells #[.int .i64 m.f.x, .int .i64 m.f.y, .int .i64 m.t.x, .int .i64 m.t.y, .int .i64 m.c] 26)).alloc (.cells #[.int .i64 n.f.x, .int .i64 n.f.y, .int .i64 n.t.x, .int .i64 n.t.y, .int .i64 n.c] 26)) :=
  ⟨(BM.new w m).below (below_alloc _ _), blkN (by simp), (below_alloc _ _).alloc (by simp) _⟩
/-- What a question about delays reads. -/
def CdM (w : World) (A : Option Addr) (F : List Sp) (B : Option Addr) (T : List Sp) (C : Option Addr) (P : List Int) (E : Option Addr) (D : List Int) : Prop := Mem w A (spots F) ∧ Mem w B (spots T) ∧ Mem w C (ints P) ∧ Mem w E (ints D)
theorem CdM.below {w w' : World} {A : Option Addr} {F : List Sp} {B : Option Addr} {T : List Sp} {C : Option Addr} {P : List Int} {E : Option Addr} {D : List Int} (h : CdM w A F B T C P E D) (hq : Below w.heap.size w w') : CdM w' A F B T C P E D :=
  ⟨h.1.below hq, h.2.1.below hq, h.2.2.1.below hq, h.2.2.2.below hq⟩
/-- A box with a transition. -/
def BT (w : World) (b : Nat) (A : Option Addr) (F : List Sp) (c : Nat) (B : Option Addr) (T : List Sp) (d : Nat) (n : Int) (C : Option Addr) (P : List Int) (f : Nat) : Prop := Blk w b #[.slice A F.length c, .slice B T.length d, .int .i64 n, .slice C P.length f] 34
theorem BT.below {w w' : World} {b : Nat} {A : Option Addr} {F : List Sp} {c : Nat} {B : Option Addr} {T : List Sp} {d : Nat} {n : Int} {C : Option Addr} {P : List Int} {f : Nat} (h : BT w b A F c B T d n C P f) (hq : Below w.heap.size w w') : BT w' b A F c B T d n C P f := Blk.below h hq (Blk.lt h)
theorem BT.cells {w : World} {b : Nat} {A : Option Addr} {F : List Sp} {c : Nat} {B : Option Addr} {T : List Sp} {d : Nat} {n : Int} {C : Option Addr} {P : List Int} {f : Nat} (h : BT w b A F c B T d n C P f) : w.cell? ⟨b, 0, none⟩ = some (.slice A F.length c) ∧ w.cell? ⟨b, 1, none⟩ = some (.slice B T.length d) ∧ w.cell? ⟨b, 2, none⟩ = some (.int .i64 n) ∧ w.cell? ⟨b, 3, none⟩ = some (.slice C P.length f) :=
  ⟨Blk.cell h 0, Blk.cell h 1, Blk.cell h 2, Blk.cell h 3⟩
theorem BT.new (w : World) (A : Option Addr) (F : List Sp) (c : Nat) (B : Option Addr) (T : List Sp) (d : Nat) (n : Int) (C : Option Addr) (P : List Int) (f : Nat) : BT (w.alloc (.cells #[.slice A F.length c, .slice B T.length d, .int .i64 n, .slice C P.length f] 34)) w.heap.size A F c B T d n C P f := Blk.new w _ _
def Beh (B : Nat) (w w' : World) : Prop := B ≤ w'.heap.size ∧ Below B w w'
theorem Beh.below {B : Nat} {w w' w'' : World} (h : Beh B w w') (hq : Below w'.heap.size w' w'') : Beh B w w'' := ⟨Nat.le_trans h.1 hq.size, h.2.trans (hq.mono h.1)⟩
theorem eq0 {n : Nat} (h : n = 0) : ((n : Int) == 0) = true := by simp [h]
theorem ne0 {n : Nat} (h : ¬ n = 0) : ((n : Int) == 0) = false := by simp [h]
def CdL (F : List Sp) (c : Nat) (T : List Sp) (d : Nat) (P : List Int) (f : Nat) (D : List Int) (o : Nat) : Prop := (F.length ≤ 1048576 ∧ T.length ≤ 1048576 ∧ P.length ≤ 1048576 ∧ D.length ≤ 1048576) ∧ F.length ≤ c ∧ T.length ≤ d ∧ P.length ≤ f ∧ D.length ≤ o

set_option maxRecDepth 100000 in
set_option maxHeartbeats 40000000 in
theorem FnDelayed_walk (A0 : Option Addr) (c0 : Nat) (L0 : List Int) (A1 : Option Addr) (c1 : Nat) (L1 : List Int) (W : World) (m0 : Mem W A0 (L0.flatMap fun n => [Value.int .u8 n])) (k0 : ∀ x ∈ L0, okByte x) (l0 : L0.length ≤ c0) (n0 : c0 ≤ maxLen)
    (m1 : Mem W A1 (L1.flatMap fun n => [Value.int .u8 n])) (k1 : ∀ x ∈ L1, okByte x) (l1 : L1.length ≤ c1) (n1 : c1 ≤ maxLen) :
    Calls Tryz.prog 3 #[.slice A0 L0.length c0, .slice A1 L1.length c1] W fun e W' => e = .returned (.bool true) ∧ Below W.heap.size W W' := by
  have K0 := Lib.hid (code_of m0 k0 l0 n0)
  have K1 := Lib.hid (code_of m1 k1 l1 n1)
  unfold maxLen at n0 n1
  have q0 : L0.length ≤ 9223372036854775807 := by omega
  have BB := Lib.hid (Below.refl W.heap.size W)
  clear m0 k0 m1 k1
  clear l0 n0 l1 n1
  go_enter Tryz.func3, Tryz.ntmps3
  by_cases hbig : 1048576 < wrap64 ((L0.length : Int) + (L1.length : Int))
  · go_wp2
    go_ret
    exact ⟨rfl, Below.refl _ _⟩
  go_wp2_with fail
  refine (drawLeastDelayed_any _ _ _ _ K0.out).mono ?_
  rintro e w1 ⟨a, b, p, q, rfl, hm1, hm2, hp, hq_, hq⟩
  have K0_ := K0.out.below hq
  have K1_ := K1.out.below hq
  have BB_ := Below.next hq BB.out BB.out.size
  clear K0 K1 BB hq
  have K0 := Lib.hid K0_
  have K1 := Lib.hid K1_
  have BB := Lib.hid BB_
  clear K0_ K1_ BB_
  clear K0
  clear hm1 hm2 hp hq_
  go_wp2_with fail
  obtain ⟨hbm, hbn, hq⟩ := BM.two w1 a b
  have BA_n := Lib.hid hbm
  have BB2_n := Lib.hid hbn
  clear hbm hbn
  have K1_ := K1.out.below hq
  have BB_ := Below.next hq BB.out BB.out.size
  clear K1 BB hq
  have K1 := Lib.hid K1_
  have BB := Lib.hid BB_
  clear K1_ BB_
  have BMa := BA_n
  have BMb := BB2_n
  clear BA_n BB2_n
  generalize ((w1.alloc (.cells #[.int .i64 a.f.x, .int .i64 a.f.y, .int .i64 a.t.x, .int .i64 a.t.y, .int .i64 a.c] 26)).alloc (.cells #[.int .i64 b.f.x, .int .i64 b.f.y, .int .i64 b.t.x, .int .i64 b.t.y, .int .i64 b.c] 26)) = wA at *
  generalize w1.heap.size + 1 = bb at *
  generalize w1.heap.size = ba at *
  obtain ⟨ta, h_ta⟩ : ∃ v, ldA a b p q = v := ⟨_, rfl⟩
  have HTA := Lib.hid h_ta
  clear h_ta
  obtain ⟨tb, h_tb⟩ : ∃ v, ldB a b p q = v := ⟨_, rfl⟩
  have HTB := Lib.hid h_tb
  clear h_tb
  obtain ⟨ok, h_ok⟩ : ∃ v, ldOk a b p q = v := ⟨_, rfl⟩
  have HOK := Lib.hid h_ok
  clear h_ok
  refine (impl_LeastDelayed_any a b p q _).mono ?_
  rintro e w2 ⟨he, hq⟩
  rw [HTA.out, HTB.out, HOK.out] at he
  subst he
  have K1_ := K1.out.below hq
  have BMa_ := BMa.out.below hq
  have BMb_ := BMb.out.below hq
  have BB_ := Below.next hq BB.out BB.out.size
  clear K1 BMa BMb BB hq
  have K1 := Lib.hid K1_
  have BMa := Lib.hid BMa_
  have BMb := Lib.hid BMb_
  have BB := Lib.hid BB_
  clear K1_ BMa_ BMb_ BB_
  obtain ⟨xa0, xa1, xa2, xa3, xa4⟩ := BMa.out.cells
  obtain ⟨xb0, xb1, xb2, xb3, xb4⟩ := BMb.out.cells
  go_wp2_with fail
  refine (spec_LeastDelayed_any a b p q _).mono ?_
  rintro e w3 ⟨he, hq⟩
  rw [HTA.out, HTB.out, HOK.out] at he
  subst he
  have xa0_ := keep1 hq xa0
  have xa1_ := keep1 hq xa1
  have xa2_ := keep1 hq xa2
  have xa3_ := keep1 hq xa3
  have xa4_ := keep1 hq xa4
  have xb0_ := keep1 hq xb0
  have xb1_ := keep1 hq xb1
  have xb2_ := keep1 hq xb2
  have xb3_ := keep1 hq xb3
  have xb4_ := keep1 hq xb4
  have K1_ := K1.out.below hq
  have BMa_ := BMa.out.below hq
  have BMb_ := BMb.out.below hq
  have BB_ := Below.next hq BB.out BB.out.size
  clear xa0 xa1 xa2 xa3 xa4 xb0 xb1 xb2 xb3 xb4 K1 BMa BMb BB hq
  have xa0 := xa0_
  have xa1 := xa1_
  have xa2 := xa2_
  have xa3 := xa3_
  have xa4 := xa4_
  have xb0 := xb0_
  have xb1 := xb1_
  have xb2 := xb2_
  have xb3 := xb3_
  have xb4 := xb4_
  have K1 := Lib.hid K1_
  have BMa := Lib.hid BMa_
  have BMb := Lib.hid BMb_
  have BB := Lib.hid BB_
  clear xa0_ xa1_ xa2_ xa3_ xa4_ xb0_ xb1_ xb2_ xb3_ xb4_ K1_ BMa_ BMb_ BB_
  clear xa0 xa1 xa2 xa3 xa4
  clear xb0 xb1 xb2 xb3 xb4
  go_wp2_with fail
  refine (drawIsRepair_any _ _ _ _ K1.out).mono ?_
  rintro e w4 ⟨Ar, cr, Fr, Br, dr, Tr, nr, Cr, fr, Pr, Er, or, Dr, Lr, rfl, h1, h2, h3, h4, h5, h6, h7, h8, hq⟩
  have CMr_n := Lib.hid (show CdM w4 Ar Fr Br Tr Cr Pr Er Dr from ⟨Mem.of_own h1.2.1, Mem.of_own h2.2.1, Mem.of_own h3.2, h5.mem⟩)
  have HLr := Lib.hid (show CdL Fr cr Tr dr Pr fr Dr or from ⟨⟨by have := h1.1; omega, by have := h2.1; omega, by have := h3.1; omega, by have := h6.1; omega⟩, own_cap h1.2.1, own_cap h2.2.1, own_cap h3.2, h7⟩)
  have HNr := Lib.hid h4
  clear h1 h2 h3 h4 h5 h6 h7 h8
  have K1_ := K1.out.below hq
  have BMa_ := BMa.out.below hq
  have BMb_ := BMb.out.below hq
  have BB_ := Below.next hq BB.out BB.out.size
  clear K1 BMa BMb BB hq
  have K1 := Lib.hid K1_
  have BMa := Lib.hid BMa_
  have BMb := Lib.hid BMb_
  have BB := Lib.hid BB_
  clear K1_ BMa_ BMb_ BB_
  have CMr := CMr_n
  clear CMr_n
  go_wp2_with fail
  have hq := below_alloc w4 (.cells #[.slice Ar Fr.length cr, .slice Br Tr.length dr, .int .i64 nr, .slice Cr Pr.length fr] 34)
  have K1_ := K1.out.below hq
  have BMa_ := BMa.out.below hq
  have BMb_ := BMb.out.below hq
  have CMr_ := CMr.out.below hq
  have BB_ := Below.next hq BB.out BB.out.size
  clear K1 BMa BMb CMr BB hq
  have K1 := Lib.hid K1_
  have BMa := Lib.hid BMa_
  have BMb := Lib.hid BMb_
  have CMr := Lib.hid CMr_
  have BB := Lib.hid BB_
  clear K1_ BMa_ BMb_ CMr_ BB_
  have BTr := Lib.hid (BT.new w4 Ar Fr cr Br Tr dr nr Cr Pr fr)
  generalize (w4.alloc (.cells #[.slice Ar Fr.length cr, .slice Br Tr.length dr, .int .i64 nr, .slice Cr Pr.length fr] 34)) = wTr at *
  generalize w4.heap.size = btr at *
  obtain ⟨ir, h_ir⟩ : ∃ v, irV Fr Tr nr Pr Dr Lr = v := ⟨_, rfl⟩
  have HIR := Lib.hid h_ir
  clear h_ir
  obtain ⟨io, h_io⟩ : ∃ v, irOk Fr Tr nr Pr Dr Lr = v := ⟨_, rfl⟩
  have HIO := Lib.hid h_io
  clear h_io
  obtain ⟨cp, h_cp⟩ : ∃ v, cpV Fr Tr nr Pr Dr Lr = v := ⟨_, rfl⟩
  have HCP := Lib.hid h_cp
  clear h_cp
  have HIC := Lib.hid (show io = true → ir = decide (cp.length = 0) from fun h => by rw [← HIR.out, ← HCP.out]; exact ir_cp (HIO.out.trans h))
  have hcl : cp.length ≤ 1048576 := by rw [← HCP.out]; exact cp_le _ _ _ _ _ _
  refine (impl_IsRepair_any _ _ Fr _ _ Tr nr _ _ Pr _ _ Dr Lr _ CMr.out.1 CMr.out.2.1 CMr.out.2.2.1 HLr.out.1.1 HLr.out.1.2.1 HLr.out.1.2.2.1 HLr.out.2.1 HLr.out.2.2.1 HLr.out.2.2.2.1 CMr.out.2.2.2 HLr.out.1.2.2.2 HLr.out.2.2.2.2).mono ?_
  rintro e w5 ⟨he, hq⟩
  rw [HIR.out, HIO.out] at he
  subst he
  have K1_ := K1.out.below hq
  have BMa_ := BMa.out.below hq
  have BMb_ := BMb.out.below hq
  have CMr_ := CMr.out.below hq
  have BTr_ := BTr.out.below hq
  have BB_ := Below.next hq BB.out BB.out.size
  clear K1 BMa BMb CMr BTr BB hq
  have K1 := Lib.hid K1_
  have BMa := Lib.hid BMa_
  have BMb := Lib.hid BMb_
  have CMr := Lib.hid CMr_
  have BTr := Lib.hid BTr_
  have BB := Lib.hid BB_
  clear K1_ BMa_ BMb_ CMr_ BTr_ BB_
  obtain ⟨zr0, zr1, zr2, zr3⟩ := BTr.out.cells
  go_wp2_with fail
  refine (spec_IsRepair_any _ _ Fr _ _ Tr nr _ _ Pr _ _ Dr Lr _ CMr.out.1 CMr.out.2.1 CMr.out.2.2.1 HLr.out.1.1 HLr.out.1.2.1 HLr.out.1.2.2.1 HLr.out.2.1 HLr.out.2.2.1 HLr.out.2.2.2.1 CMr.out.2.2.2 HLr.out.1.2.2.2 HLr.out.2.2.2.2).mono ?_
  rintro e w6 ⟨he, hq⟩
  rw [HIR.out, HIO.out] at he
  subst he
  have zr0_ := keep1 hq zr0
  have zr1_ := keep1 hq zr1
  have zr2_ := keep1 hq zr2
  have zr3_ := keep1 hq zr3
  have K1_ := K1.out.below hq
  have BMa_ := BMa.out.below hq
  have BMb_ := BMb.out.below hq
  have CMr_ := CMr.out.below hq
  have BTr_ := BTr.out.below hq
  have BB_ := Below.next hq BB.out BB.out.size
  clear zr0 zr1 zr2 zr3 K1 BMa BMb CMr BTr BB hq
  have zr0 := zr0_
  have zr1 := zr1_
  have zr2 := zr2_
  have zr3 := zr3_
  have K1 := Lib.hid K1_
  have BMa := Lib.hid BMa_
  have BMb := Lib.hid BMb_
  have CMr := Lib.hid CMr_
  have BTr := Lib.hid BTr_
  have BB := Lib.hid BB_
  clear zr0_ zr1_ zr2_ zr3_ K1_ BMa_ BMb_ CMr_ BTr_ BB_
  go_wp2_with fail
  refine (impl_CloseDelayed_any _ _ Fr _ _ Tr nr _ _ Pr _ _ Dr Lr _ CMr.out.1 CMr.out.2.1 CMr.out.2.2.1 HLr.out.1.1 HLr.out.1.2.1 HLr.out.1.2.2.1 HLr.out.2.1 HLr.out.2.2.1 HLr.out.2.2.2.1 CMr.out.2.2.2 HLr.out.1.2.2.2 HLr.out.2.2.2.2).mono ?_
  rintro e w7 ⟨Ap1, cp1, vp, he, ho, hpr, hq⟩
  rw [HCP.out, HIO.out] at he
  rw [HCP.out] at ho hpr
  subst he
  have PQ1_n := Lib.hid (PairsAt.of (c := 0) hpr (Mem.of_own ho))
  clear ho hpr
  have zr0_ := keep1 hq zr0
  have zr1_ := keep1 hq zr1
  have zr2_ := keep1 hq zr2
  have zr3_ := keep1 hq zr3
  have K1_ := K1.out.below hq
  have BMa_ := BMa.out.below hq
  have BMb_ := BMb.out.below hq
  have CMr_ := CMr.out.below hq
  have BTr_ := BTr.out.below hq
  have BB_ := Below.next hq BB.out BB.out.size
  clear zr0 zr1 zr2 zr3 K1 BMa BMb CMr BTr BB hq
  have zr0 := zr0_
  have zr1 := zr1_
  have zr2 := zr2_
  have zr3 := zr3_
  have K1 := Lib.hid K1_
  have BMa := Lib.hid BMa_
  have BMb := Lib.hid BMb_
  have CMr := Lib.hid CMr_
  have BTr := Lib.hid BTr_
  have BB := Lib.hid BB_
  clear zr0_ zr1_ zr2_ zr3_ K1_ BMa_ BMb_ CMr_ BTr_ BB_
  have PQ1 := PQ1_n
  clear PQ1_n
  go_wp2_with fail
  refine (spec_CloseDelayed_any _ _ Fr _ _ Tr nr _ _ Pr _ _ Dr Lr _ CMr.out.1 CMr.out.2.1 CMr.out.2.2.1 HLr.out.1.1 HLr.out.1.2.1 HLr.out.1.2.2.1 HLr.out.2.1 HLr.out.2.2.1 HLr.out.2.2.2.1 CMr.out.2.2.2 HLr.out.1.2.2.2 HLr.out.2.2.2.2).mono ?_
  rintro e w8 ⟨Ap2, cp2, vp, he, ho, hpr, hq⟩
  rw [HCP.out, HIO.out] at he
  rw [HCP.out] at ho hpr
  subst he
  have PQ2_n := Lib.hid (PairsAt.of (c := 0) hpr (Mem.of_own ho))
  clear ho hpr
  have zr0_ := keep1 hq zr0
  have zr1_ := keep1 hq zr1
  have zr2_ := keep1 hq zr2
  have zr3_ := keep1 hq zr3
  have K1_ := K1.out.below hq
  have BMa_ := BMa.out.below hq
  have BMb_ := BMb.out.below hq
  have CMr_ := CMr.out.below hq
  have BTr_ := BTr.out.below hq
  have PQ1_ := PQ1.out.below hq
  have BB_ := Below.next hq BB.out BB.out.size
  clear zr0 zr1 zr2 zr3 K1 BMa BMb CMr BTr PQ1 BB hq
  have zr0 := zr0_
  have zr1 := zr1_
  have zr2 := zr2_
  have zr3 := zr3_
  have K1 := Lib.hid K1_
  have BMa := Lib.hid BMa_
  have BMb := Lib.hid BMb_
  have CMr := Lib.hid CMr_
  have BTr := Lib.hid BTr_
  have PQ1 := Lib.hid PQ1_
  have BB := Lib.hid BB_
  clear zr0_ zr1_ zr2_ zr3_ K1_ BMa_ BMb_ CMr_ BTr_ PQ1_ BB_
  have PQ2 := PQ2_n
  clear PQ2_n
  clear CMr BTr zr0 zr1 zr2 zr3
  clear HLr HNr
  go_wp2_with fail
  refine (drawPlaceDelayed_any _ _ _ _ K1.out).mono ?_
  rintro e w9 ⟨m, dl, ct, rfl, hm, hd, hc, hq⟩
  have HDC := Lib.hid (And.intro hd hc)
  clear hm hd hc
  have K1_ := K1.out.below hq
  have BMa_ := BMa.out.below hq
  have BMb_ := BMb.out.below hq
  have PQ1_ := PQ1.out.below hq
  have PQ2_ := PQ2.out.below hq
  have BB_ := Below.next hq BB.out BB.out.size
  clear K1 BMa BMb PQ1 PQ2 BB hq
  have K1 := Lib.hid K1_
  have BMa := Lib.hid BMa_
  have BMb := Lib.hid BMb_
  have PQ1 := Lib.hid PQ1_
  have PQ2 := Lib.hid PQ2_
  have BB := Lib.hid BB_
  clear K1_ BMa_ BMb_ PQ1_ PQ2_ BB_
  go_wp2_with fail
  have hq := below_alloc w9 (.cells #[.int .i64 m.f.x, .int .i64 m.f.y, .int .i64 m.t.x, .int .i64 m.t.y, .int .i64 m.c] 26)
  have K1_ := K1.out.below hq
  have BMa_ := BMa.out.below hq
  have BMb_ := BMb.out.below hq
  have PQ1_ := PQ1.out.below hq
  have PQ2_ := PQ2.out.below hq
  have BB_ := Below.next hq BB.out BB.out.size
  clear K1 BMa BMb PQ1 PQ2 BB hq
  have K1 := Lib.hid K1_
  have BMa := Lib.hid BMa_
  have BMb := Lib.hid BMb_
  have PQ1 := Lib.hid PQ1_
  have PQ2 := Lib.hid PQ2_
  have BB := Lib.hid BB_
  clear K1_ BMa_ BMb_ PQ1_ PQ2_ BB_
  have BMm := Lib.hid (BM.new w9 m)
  generalize (w9.alloc (.cells #[.int .i64 m.f.x, .int .i64 m.f.y, .int .i64 m.t.x, .int .i64 m.t.y, .int .i64 m.c] 26)) = wM at *
  generalize w9.heap.size = bm at *
  obtain ⟨px, h_px⟩ : ∃ v, pdX m dl ct = v := ⟨_, rfl⟩
  have HPX := Lib.hid h_px
  clear h_px
  obtain ⟨py, h_py⟩ : ∃ v, pdY m dl ct = v := ⟨_, rfl⟩
  have HPY := Lib.hid h_py
  clear h_py
  obtain ⟨five, h_five⟩ : ∃ v, pdOk m dl ct = v := ⟨_, rfl⟩
  have HPO := Lib.hid h_five
  clear h_five
  refine (impl_PlaceDelayed_any m dl ct _).mono ?_
  rintro e w10 ⟨he, hq⟩
  rw [HPX.out, HPY.out, HPO.out] at he
  subst he
  have K1_ := K1.out.below hq
  have BMa_ := BMa.out.below hq
  have BMb_ := BMb.out.below hq
  have PQ1_ := PQ1.out.below hq
  have PQ2_ := PQ2.out.below hq
  have BMm_ := BMm.out.below hq
  have BB_ := Below.next hq BB.out BB.out.size
  clear K1 BMa BMb PQ1 PQ2 BMm BB hq
  have K1 := Lib.hid K1_
  have BMa := Lib.hid BMa_
  have BMb := Lib.hid BMb_
  have PQ1 := Lib.hid PQ1_
  have PQ2 := Lib.hid PQ2_
  have BMm := Lib.hid BMm_
  have BB := Lib.hid BB_
  clear K1_ BMa_ BMb_ PQ1_ PQ2_ BMm_ BB_
  obtain ⟨xm0, xm1, xm2, xm3, xm4⟩ := BMm.out.cells
  go_wp2_with fail
  refine (spec_PlaceDelayed_any m dl ct _).mono ?_
  rintro e w11 ⟨he, hq⟩
  rw [HPX.out, HPY.out, HPO.out] at he
  subst he
  have xm0_ := keep1 hq xm0
  have xm1_ := keep1 hq xm1
  have xm2_ := keep1 hq xm2
  have xm3_ := keep1 hq xm3
  have xm4_ := keep1 hq xm4
  have K1_ := K1.out.below hq
  have BMa_ := BMa.out.below hq
  have BMb_ := BMb.out.below hq
  have PQ1_ := PQ1.out.below hq
  have PQ2_ := PQ2.out.below hq
  have BMm_ := BMm.out.below hq
  have BB_ := Below.next hq BB.out BB.out.size
  clear xm0 xm1 xm2 xm3 xm4 K1 BMa BMb PQ1 PQ2 BMm BB hq
  have xm0 := xm0_
  have xm1 := xm1_
  have xm2 := xm2_
  have xm3 := xm3_
  have xm4 := xm4_
  have K1 := Lib.hid K1_
  have BMa := Lib.hid BMa_
  have BMb := Lib.hid BMb_
  have PQ1 := Lib.hid PQ1_
  have PQ2 := Lib.hid PQ2_
  have BMm := Lib.hid BMm_
  have BB := Lib.hid BB_
  clear xm0_ xm1_ xm2_ xm3_ xm4_ K1_ BMa_ BMb_ PQ1_ PQ2_ BMm_ BB_
  clear xm0 xm1 xm2 xm3 xm4
  go_wp2_with fail
  refine (drawStandingAt_any _ _ _ _ K1.out).mono ?_
  rintro e w12 ⟨As, cs, Fs, Bs, ds, Ts, ns, Cs, fs, Ps, Es, os, Ds, Ls, rfl, h1, h2, h3, h4, h5, h6, h7, h8, hq⟩
  have CMs_n := Lib.hid (show CdM w12 As Fs Bs Ts Cs Ps Es Ds from ⟨Mem.of_own h1.2.1, Mem.of_own h2.2.1, Mem.of_own h3.2, h5.mem⟩)
  have HLs := Lib.hid (show CdL Fs cs Ts ds Ps fs Ds os from ⟨⟨by have := h1.1; omega, by have := h2.1; omega, by have := h3.1; omega, by have := h6.1; omega⟩, own_cap h1.2.1, own_cap h2.2.1, own_cap h3.2, h7⟩)
  have HNs := Lib.hid h4
  clear h1 h2 h3 h4 h5 h6 h7 h8
  have K1_ := K1.out.below hq
  have BMa_ := BMa.out.below hq
  have BMb_ := BMb.out.below hq
  have PQ1_ := PQ1.out.below hq
  have PQ2_ := PQ2.out.below hq
  have BMm_ := BMm.out.below hq
  have BB_ := Below.next hq BB.out BB.out.size
  clear K1 BMa BMb PQ1 PQ2 BMm BB hq
  have K1 := Lib.hid K1_
  have BMa := Lib.hid BMa_
  have BMb := Lib.hid BMb_
  have PQ1 := Lib.hid PQ1_
  have PQ2 := Lib.hid PQ2_
  have BMm := Lib.hid BMm_
  have BB := Lib.hid BB_
  clear K1_ BMa_ BMb_ PQ1_ PQ2_ BMm_ BB_
  have CMs := CMs_n
  clear CMs_n
  go_wp2_with fail
  have hq := below_alloc w12 (.cells #[.slice As Fs.length cs, .slice Bs Ts.length ds, .int .i64 ns, .slice Cs Ps.length fs] 34)
  have K1_ := K1.out.below hq
  have BMa_ := BMa.out.below hq
  have BMb_ := BMb.out.below hq
  have PQ1_ := PQ1.out.below hq
  have PQ2_ := PQ2.out.below hq
  have BMm_ := BMm.out.below hq
  have CMs_ := CMs.out.below hq
  have BB_ := Below.next hq BB.out BB.out.size
  clear K1 BMa BMb PQ1 PQ2 BMm CMs BB hq
  have K1 := Lib.hid K1_
  have BMa := Lib.hid BMa_
  have BMb := Lib.hid BMb_
  have PQ1 := Lib.hid PQ1_
  have PQ2 := Lib.hid PQ2_
  have BMm := Lib.hid BMm_
  have CMs := Lib.hid CMs_
  have BB := Lib.hid BB_
  clear K1_ BMa_ BMb_ PQ1_ PQ2_ BMm_ CMs_ BB_
  have BTs := Lib.hid (BT.new w12 As Fs cs Bs Ts ds ns Cs Ps fs)
  generalize (w12.alloc (.cells #[.slice As Fs.length cs, .slice Bs Ts.length ds, .int .i64 ns, .slice Cs Ps.length fs] 34)) = wTs at *
  generalize w12.heap.size = bts at *
  clear K1
  obtain ⟨st, h_st⟩ : ∃ v, stV Fs Ts ns Ps Ds Ls = v := ⟨_, rfl⟩
  have HST := Lib.hid h_st
  clear h_st
  obtain ⟨so, h_so⟩ : ∃ v, saOk Fs Ts ns Ps Ds Ls = v := ⟨_, rfl⟩
  have HSO := Lib.hid h_so
  clear h_so
  obtain ⟨rl, h_rl⟩ : ∃ v, rlV Fs Ts ns Ps Ds = v := ⟨_, rfl⟩
  have HRL := Lib.hid h_rl
  clear h_rl
  obtain ⟨ni, h_ni⟩ : ∃ v, dlOk Fs Ts ns Ps Ds = v := ⟨_, rfl⟩
  have HNI := Lib.hid h_ni
  clear h_ni
  have hsl : st.length ≤ 1048576 := by rw [← HST.out]; exact Nat.le_trans (stV_le _ _ _ _ _ _) HLs.out.1.2.2.1
  refine (impl_StandingAt_any _ _ Fs _ _ Ts ns _ _ Ps _ _ Ds Ls _ CMs.out.1 CMs.out.2.1 CMs.out.2.2.1 HLs.out.1.1 HLs.out.1.2.1 HLs.out.1.2.2.1 HLs.out.2.1 HLs.out.2.2.1 HLs.out.2.2.2.1 CMs.out.2.2.2 HLs.out.1.2.2.2 HLs.out.2.2.2.2).mono ?_
  rintro e w13 ⟨As1, cs1, he, ho, hq⟩
  rw [HST.out, HSO.out] at he
  rw [HST.out] at ho
  subst he
  have MS1_n := Lib.hid (Mem.of_own ho)
  clear ho
  have BMa_ := BMa.out.below hq
  have BMb_ := BMb.out.below hq
  have PQ1_ := PQ1.out.below hq
  have PQ2_ := PQ2.out.below hq
  have BMm_ := BMm.out.below hq
  have CMs_ := CMs.out.below hq
  have BTs_ := BTs.out.below hq
  have BB_ := Below.next hq BB.out BB.out.size
  clear BMa BMb PQ1 PQ2 BMm CMs BTs BB hq
  have BMa := Lib.hid BMa_
  have BMb := Lib.hid BMb_
  have PQ1 := Lib.hid PQ1_
  have PQ2 := Lib.hid PQ2_
  have BMm := Lib.hid BMm_
  have CMs := Lib.hid CMs_
  have BTs := Lib.hid BTs_
  have BB := Lib.hid BB_
  clear BMa_ BMb_ PQ1_ PQ2_ BMm_ CMs_ BTs_ BB_
  have MS1 := MS1_n
  clear MS1_n
  obtain ⟨zs0, zs1, zs2, zs3⟩ := BTs.out.cells
  go_wp2_with fail
  refine (spec_StandingAt_any _ _ Fs _ _ Ts ns _ _ Ps _ _ Ds Ls _ CMs.out.1 CMs.out.2.1 CMs.out.2.2.1 HLs.out.1.1 HLs.out.1.2.1 HLs.out.1.2.2.1 HLs.out.2.1 HLs.out.2.2.1 HLs.out.2.2.2.1 CMs.out.2.2.2 HLs.out.1.2.2.2 HLs.out.2.2.2.2).mono ?_
  rintro e w14 ⟨As2, cs2, he, ho, hq⟩
  rw [HST.out, HSO.out] at he
  rw [HST.out] at ho
  subst he
  have MS2_n := Lib.hid (Mem.of_own ho)
  clear ho
  have zs0_ := keep1 hq zs0
  have zs1_ := keep1 hq zs1
  have zs2_ := keep1 hq zs2
  have zs3_ := keep1 hq zs3
  have BMa_ := BMa.out.below hq
  have BMb_ := BMb.out.below hq
  have PQ1_ := PQ1.out.below hq
  have PQ2_ := PQ2.out.below hq
  have BMm_ := BMm.out.below hq
  have CMs_ := CMs.out.below hq
  have BTs_ := BTs.out.below hq
  have MS1_ := MS1.out.below hq
  have BB_ := Below.next hq BB.out BB.out.size
  clear zs0 zs1 zs2 zs3 BMa BMb PQ1 PQ2 BMm CMs BTs MS1 BB hq
  have zs0 := zs0_
  have zs1 := zs1_
  have zs2 := zs2_
  have zs3 := zs3_
  have BMa := Lib.hid BMa_
  have BMb := Lib.hid BMb_
  have PQ1 := Lib.hid PQ1_
  have PQ2 := Lib.hid PQ2_
  have BMm := Lib.hid BMm_
  have CMs := Lib.hid CMs_
  have BTs := Lib.hid BTs_
  have MS1 := Lib.hid MS1_
  have BB := Lib.hid BB_
  clear zs0_ zs1_ zs2_ zs3_ BMa_ BMb_ PQ1_ PQ2_ BMm_ CMs_ BTs_ MS1_ BB_
  have MS2 := MS2_n
  clear MS2_n
  go_wp2_with fail
  refine (impl_RepairLasts_any _ _ Fs _ _ Ts ns _ _ Ps _ _ Ds _ CMs.out.1 CMs.out.2.1 CMs.out.2.2.1 HLs.out.1.1 HLs.out.1.2.1 HLs.out.1.2.2.1 HLs.out.2.1 HLs.out.2.2.1 HLs.out.2.2.2.1 CMs.out.2.2.2 HLs.out.1.2.2.2).mono ?_
  rintro e w15 ⟨he, hq⟩
  rw [HRL.out, HNI.out] at he
  subst he
  have zs0_ := keep1 hq zs0
  have zs1_ := keep1 hq zs1
  have zs2_ := keep1 hq zs2
  have zs3_ := keep1 hq zs3
  have BMa_ := BMa.out.below hq
  have BMb_ := BMb.out.below hq
  have PQ1_ := PQ1.out.below hq
  have PQ2_ := PQ2.out.below hq
  have BMm_ := BMm.out.below hq
  have CMs_ := CMs.out.below hq
  have BTs_ := BTs.out.below hq
  have MS1_ := MS1.out.below hq
  have MS2_ := MS2.out.below hq
  have BB_ := Below.next hq BB.out BB.out.size
  clear zs0 zs1 zs2 zs3 BMa BMb PQ1 PQ2 BMm CMs BTs MS1 MS2 BB hq
  have zs0 := zs0_
  have zs1 := zs1_
  have zs2 := zs2_
  have zs3 := zs3_
  have BMa := Lib.hid BMa_
  have BMb := Lib.hid BMb_
  have PQ1 := Lib.hid PQ1_
  have PQ2 := Lib.hid PQ2_
  have BMm := Lib.hid BMm_
  have CMs := Lib.hid CMs_
  have BTs := Lib.hid BTs_
  have MS1 := Lib.hid MS1_
  have MS2 := Lib.hid MS2_
  have BB := Lib.hid BB_
  clear zs0_ zs1_ zs2_ zs3_ BMa_ BMb_ PQ1_ PQ2_ BMm_ CMs_ BTs_ MS1_ MS2_ BB_
  go_wp2_with fail
  refine (spec_RepairLasts_any _ _ Fs _ _ Ts ns _ _ Ps _ _ Ds _ CMs.out.1 CMs.out.2.1 CMs.out.2.2.1 HLs.out.1.1 HLs.out.1.2.1 HLs.out.1.2.2.1 HLs.out.2.1 HLs.out.2.2.1 HLs.out.2.2.2.1 CMs.out.2.2.2 HLs.out.1.2.2.2).mono ?_
  rintro e w16 ⟨he, hq⟩
  rw [HRL.out, HNI.out] at he
  subst he
  have zs0_ := keep1 hq zs0
  have zs1_ := keep1 hq zs1
  have zs2_ := keep1 hq zs2
  have zs3_ := keep1 hq zs3
  have BMa_ := BMa.out.below hq
  have BMb_ := BMb.out.below hq
  have PQ1_ := PQ1.out.below hq
  have PQ2_ := PQ2.out.below hq
  have BMm_ := BMm.out.below hq
  have CMs_ := CMs.out.below hq
  have BTs_ := BTs.out.below hq
  have MS1_ := MS1.out.below hq
  have MS2_ := MS2.out.below hq
  have BB_ := Below.next hq BB.out BB.out.size
  clear zs0 zs1 zs2 zs3 BMa BMb PQ1 PQ2 BMm CMs BTs MS1 MS2 BB hq
  have zs0 := zs0_
  have zs1 := zs1_
  have zs2 := zs2_
  have zs3 := zs3_
  have BMa := Lib.hid BMa_
  have BMb := Lib.hid BMb_
  have PQ1 := Lib.hid PQ1_
  have PQ2 := Lib.hid PQ2_
  have BMm := Lib.hid BMm_
  have CMs := Lib.hid CMs_
  have BTs := Lib.hid BTs_
  have MS1 := Lib.hid MS1_
  have MS2 := Lib.hid MS2_
  have BB := Lib.hid BB_
  clear zs0_ zs1_ zs2_ zs3_ BMa_ BMb_ PQ1_ PQ2_ BMm_ CMs_ BTs_ MS1_ MS2_ BB_
  clear zs0 zs1 zs2 zs3
  go_upto_region 19 with (fail)
  go_cut [280] from 189 to 280 (fun v280 wx => v280 = .bool false ∧ Below W.heap.size W wx ∧ Hid (BM wx ba a) ∧ Hid (BM wx bb b) ∧ Hid (BM wx bm m) ∧ Hid (CdM wx As Fs Bs Ts Cs Ps Es Ds) ∧ Hid (BT wx bts As Fs cs Bs Ts ds ns Cs Ps fs))
  case first => as_aux_lemma =>
    have h1 : io = false ∨ (io = true ∧ ir = true ∧ ((cp.length : Int) == 0) = true) ∨ (io = true ∧ ir = false ∧ ((cp.length : Int) == 0) = false) := by
      cases hio : io
      · exact .inl rfl
      · by_cases h0 : cp.length = 0
        · exact .inr (.inl ⟨rfl, (HIC.out hio).trans (by simp [h0]), eq0 h0⟩)
        · exact .inr (.inr ⟨rfl, (HIC.out hio).trans (by simp [h0]), ne0 h0⟩)
    have h2 : so = false ∨ (so = true ∧ ni = true) := by
      cases hso : so
      · exact .inl rfl
      · exact .inr ⟨rfl, HNI.out.symm.trans (sa_dl (HSO.out.trans hso))⟩
    clear HIC HIR HIO HCP HST HSO HRL HNI HPX HPY HPO HTA HTB HOK HDC HNs
    go_wp2_with fail
    refine (qLists_same _ _ _ _ cp _ PQ1.out PQ2.out hcl).mono ?_
    rintro e w101 ⟨rfl, hq⟩
    have BMa_ := BMa.out.below hq
    have BMb_ := BMb.out.below hq
    have PQ1_ := PQ1.out.below hq
    have PQ2_ := PQ2.out.below hq
    have BMm_ := BMm.out.below hq
    have CMs_ := CMs.out.below hq
    have BTs_ := BTs.out.below hq
    have MS1_ := MS1.out.below hq
    have MS2_ := MS2.out.below hq
    have BB_ := Below.next hq BB.out BB.out.size
    clear BMa BMb PQ1 PQ2 BMm CMs BTs MS1 MS2 BB hq
    have BMa := Lib.hid BMa_
    have BMb := Lib.hid BMb_
    have PQ1 := Lib.hid PQ1_
    have PQ2 := Lib.hid PQ2_
    have BMm := Lib.hid BMm_
    have CMs := Lib.hid CMs_
    have BTs := Lib.hid BTs_
    have MS1 := Lib.hid MS1_
    have MS2 := Lib.hid MS2_
    have BB := Lib.hid BB_
    clear BMa_ BMb_ PQ1_ PQ2_ BMm_ CMs_ BTs_ MS1_ MS2_ BB_
    clear PQ1 PQ2
    go_wp2_with fail
    refine (qInts_same _ _ _ _ st _ MS1.out MS2.out hsl).mono ?_
    rintro e w102 ⟨rfl, hq⟩
    have BMa_ := BMa.out.below hq
    have BMb_ := BMb.out.below hq
    have BMm_ := BMm.out.below hq
    have CMs_ := CMs.out.below hq
    have BTs_ := BTs.out.below hq
    have MS1_ := MS1.out.below hq
    have MS2_ := MS2.out.below hq
    have BB_ := Below.next hq BB.out BB.out.size
    clear BMa BMb BMm CMs BTs MS1 MS2 BB hq
    have BMa := Lib.hid BMa_
    have BMb := Lib.hid BMb_
    have BMm := Lib.hid BMm_
    have CMs := Lib.hid CMs_
    have BTs := Lib.hid BTs_
    have MS1 := Lib.hid MS1_
    have MS2 := Lib.hid MS2_
    have BB := Lib.hid BB_
    clear BMa_ BMb_ BMm_ CMs_ BTs_ MS1_ MS2_ BB_
    clear MS1 MS2
    rcases h1 with rfl | ⟨rfl, rfl, h0⟩ | ⟨rfl, rfl, h0⟩
    all_goals
      rcases h2 with rfl | ⟨rfl, rfl⟩
      all_goals
        go_wp2_with fail
        go_meet
        exact ⟨rfl, BB.out, BMa, BMb, BMm, CMs, BTs⟩
  case rest => as_aux_lemma =>
    clear BB BMa BMb BMm CMs BTs PQ1 PQ2 MS1 MS2
    obtain ⟨rfl, hbc, BMa, BMb, BMm, CMs, BTs⟩ := hcut
    have BB := Lib.hid hbc
    clear hbc
    clear HIC HIR HIO HCP HST HSO hcl hsl
    go_upto_if 281 with (fail)
    go_cut [] from 282 to 332 (fun wx => Below W.heap.size W wx ∧ Hid (BM wx ba a) ∧ Hid (BM wx bb b) ∧ Hid (CdM wx As Fs Bs Ts Cs Ps Es Ds) ∧ Hid (BT wx bts As Fs cs Bs Ts ds ns Cs Ps fs))
    case first => as_aux_lemma =>
      obtain ⟨xm0, xm1, xm2, xm3, xm4⟩ := BMm.out.cells
      cases five
      · go_wp2
        go_meet
        exact ⟨BB.out, BMa, BMb, CMs, BTs⟩
      have hp1 := shMv_ok (pdOk_iff.1 HPO.out).1
      have hs1 := isSp_iff.1 hp1.1
      have hs2 := isSp_iff.1 hp1.2.1
      have hc1 := hp1.2.2
      have hdc := HDC.out
      have hb1 := mul_bd hs1.1.1 hs1.1.2 (by omega : 0 ≤ m.c) hc1.2
      have hb2 := mul_bd hs1.2.1 hs1.2.2 (by omega : 0 ≤ m.c) hc1.2
      have hb3 := mul_bd hs2.1.1 hs2.1.2 (by omega : 0 ≤ m.c) hc1.2
      have hb4 := mul_bd hs2.2.1 hs2.2.2 (by omega : 0 ≤ m.c) hc1.2
      have hw1 : IntKind.i64.wrap (m.f.x * m.c) = m.f.x * m.c := IntWalk.i64_in _ (by omega)
      have hw2 : IntKind.i64.wrap (m.f.y * m.c) = m.f.y * m.c := IntWalk.i64_in _ (by omega)
      have hw3 : IntKind.i64.wrap (m.t.x * m.c) = m.t.x * m.c := IntWalk.i64_in _ (by omega)
      have hw4 : IntKind.i64.wrap (m.t.y * m.c) = m.t.y * m.c := IntWalk.i64_in _ (by omega)
      have hw5 : IntKind.i64.wrap (dl + m.c) = dl + m.c := IntWalk.i64_in _ (by omega)
      by_cases h1 : ct ≤ dl
      · have h2 : ¬ dl + m.c ≤ ct := by omega
        obtain rfl : px = m.f.x * m.c := HPX.out.symm.trans (pd_before HPO.out h1).1
        obtain rfl : py = m.f.y * m.c := HPY.out.symm.trans (pd_before HPO.out h1).2
        clear hp1 hs1 hs2 hc1 hdc hb1 hb2 hb3 hb4
        go_wp2
        go_meet
        exact ⟨BB.out, BMa, BMb, CMs, BTs⟩
      · by_cases h2 : dl + m.c ≤ ct
        · obtain rfl : px = m.t.x * m.c := HPX.out.symm.trans (pd_behind HPO.out h2).1
          obtain rfl : py = m.t.y * m.c := HPY.out.symm.trans (pd_behind HPO.out h2).2
          clear hp1 hs1 hs2 hc1 hdc hb1 hb2 hb3 hb4
          go_wp2
          go_meet
          exact ⟨BB.out, BMa, BMb, CMs, BTs⟩
        · clear hp1 hs1 hs2 hc1 hdc hb1 hb2 hb3 hb4
          go_wp2
          go_meet
          exact ⟨BB.out, BMa, BMb, CMs, BTs⟩
    case rest => as_aux_lemma =>
      clear BB BMa BMb CMs BTs
      obtain ⟨hbc, BMa, BMb, CMs, BTs⟩ := hcut
      have BB := Lib.hid hbc
      clear hbc
      clear BMm HPX HPY HPO HDC
      go_upto_if 333 with (fail)
      go_cut [] from 334 to 361 (fun wx => Below W.heap.size W wx ∧ Hid (BM wx ba a) ∧ Hid (BM wx bb b))
      case first => as_aux_lemma =>
        cases ni
        · go_wp2
          go_meet
          exact ⟨BB.out, BMa, BMb⟩
        have hn1 := dl_n HNI.out
        have hn2 := lasts_in HNI.out
        rw [HRL.out] at hn2
        have hn3 : ¬ rl < ns := by omega
        have hn4 : IntKind.i64.wrap (ns + 4) = ns + 4 := IntWalk.i64_in _ (by omega)
        have hn5 : ¬ ns + 4 < rl := by omega
        have HLA := Lib.hid (lasts_all HNI.out)
        clear hn1 hn2
        obtain ⟨zs0, zs1, zs2, zs3⟩ := BTs.out.cells
        go_wp2_with fail
        refine (impl_StandingAt_any _ _ Fs _ _ Ts ns _ _ Ps _ _ Ds rl _ CMs.out.1 CMs.out.2.1 CMs.out.2.2.1 HLs.out.1.1 HLs.out.1.2.1 HLs.out.1.2.2.1 HLs.out.2.1 HLs.out.2.2.1 HLs.out.2.2.2.1 CMs.out.2.2.2 HLs.out.1.2.2.2 HLs.out.2.2.2.2).mono ?_
        rintro e w501 ⟨Aq, cq, he, ho, hq⟩
        have hla := HLA.out
        rw [HRL.out] at hla
        rw [hla.2, hla.1] at he
        subst he
        clear ho hla
        have zs0_ := keep1 hq zs0
        have zs1_ := keep1 hq zs1
        have zs2_ := keep1 hq zs2
        have zs3_ := keep1 hq zs3
        have BMa_ := BMa.out.below hq
        have BMb_ := BMb.out.below hq
        have CMs_ := CMs.out.below hq
        have BTs_ := BTs.out.below hq
        have BB_ := Below.next hq BB.out BB.out.size
        clear zs0 zs1 zs2 zs3 BMa BMb CMs BTs BB hq
        have zs0 := zs0_
        have zs1 := zs1_
        have zs2 := zs2_
        have zs3 := zs3_
        have BMa := Lib.hid BMa_
        have BMb := Lib.hid BMb_
        have CMs := Lib.hid CMs_
        have BTs := Lib.hid BTs_
        have BB := Lib.hid BB_
        clear zs0_ zs1_ zs2_ zs3_ BMa_ BMb_ CMs_ BTs_ BB_
        go_wp2_with fail
        go_meet
        exact ⟨BB.out, BMa, BMb⟩
      case rest => as_aux_lemma =>
        clear BB BMa BMb
        obtain ⟨hbc, BMa, BMb⟩ := hcut
        have BB := Lib.hid hbc
        clear hbc
        clear CMs BTs HRL HNI HLs HNs
        cases ok
        · go_wp2
          go_ret
          exact ⟨rfl, BB.out⟩
        have HBK := Lib.hid (ld_back HOK.out)
        have HAL := Lib.hid (ld_all HOK.out)
        have HBD := Lib.hid (show 0 ≤ ta ∧ ta ≤ 193954251360993280 ∧ 0 < tb ∧ tb ≤ 563200000000 by rw [← HTA.out, ← HTB.out]; exact ld_bd HOK.out)
        have HAT := Lib.hid (show ∀ k : Nat, (k : Int) ≤ a.c + 4 → pdOk a p k = true ∧ pdOk b q k = true ∧ bx (pdX a p k - pdX b q k) ∧ byy (pdY a p k - pdY b q k) ∧ fLt ((pdX a p k - pdX b q k) * (pdX a p k - pdX b q k) + (pdY a p k - pdY b q k) * (pdY a p k - pdY b q k), a.c * a.c) (ta, tb) = false from fun k hk => by rw [← HTA.out, ← HTB.out]; exact ld_at HOK.out hk)
        obtain ⟨xa0, xa1, xa2, xa3, xa4⟩ := BMa.out.cells
        obtain ⟨xb0, xb1, xb2, xb3, xb4⟩ := BMb.out.cells
        go_wp2_with fail
        refine (impl_LeastDelayed_any b a q p _).mono ?_
        rintro e w601 ⟨he, hq⟩
        rw [HBK.out.1, HBK.out.2.1, HBK.out.2.2, HTA.out, HTB.out] at he
        subst he
        have xa0_ := keep1 hq xa0
        have xa1_ := keep1 hq xa1
        have xa2_ := keep1 hq xa2
        have xa3_ := keep1 hq xa3
        have xa4_ := keep1 hq xa4
        have xb0_ := keep1 hq xb0
        have xb1_ := keep1 hq xb1
        have xb2_ := keep1 hq xb2
        have xb3_ := keep1 hq xb3
        have xb4_ := keep1 hq xb4
        have BMa_ := BMa.out.below hq
        have BMb_ := BMb.out.below hq
        have BB_ := Below.next hq BB.out BB.out.size
        clear xa0 xa1 xa2 xa3 xa4 xb0 xb1 xb2 xb3 xb4 BMa BMb BB hq
        have xa0 := xa0_
        have xa1 := xa1_
        have xa2 := xa2_
        have xa3 := xa3_
        have xa4 := xa4_
        have xb0 := xb0_
        have xb1 := xb1_
        have xb2 := xb2_
        have xb3 := xb3_
        have xb4 := xb4_
        have BMa := Lib.hid BMa_
        have BMb := Lib.hid BMb_
        have BB := Lib.hid BB_
        clear xa0_ xa1_ xa2_ xa3_ xa4_ xb0_ xb1_ xb2_ xb3_ xb4_ BMa_ BMb_ BB_
        clear xa0 xa1 xa2 xa3 xa4
        clear xb0 xb1 xb2 xb3 xb4
        have hac := HAL.out.1.2.2
        have hw0 : IntKind.i64.wrap (a.c + 4) = a.c + 4 := IntWalk.i64_in _ (by omega)
        obtain ⟨xa0, xa1, xa2, xa3, xa4⟩ := BMa.out.cells
        clear xa0 xa1 xa2 xa3
        go_wp2_with fail
        clear xa4
        go_loopw [51, 52, 53, 54, 55, 56, 57, 58, 59, 60, 61, 62, 63] (fun cv _ _ _ _ _ _ _ _ _ _ _ _ wr => ∃ k : Nat, (k : Int) ≤ a.c + 5 ∧ cv = .int .i64 k ∧ Below w601.heap.size w601 wr) (fun cv _ _ _ _ _ _ _ _ _ _ _ _ _ => (a.c + 5).toNat - (intOf cv).toNat)
        case atStart => exact ⟨0, by omega, rfl, Below.refl _ _⟩
        case round =>
          obtain ⟨k, hk, rfl, hq⟩ := hrel
          have HB0_ := Lib.hid (show Beh w601.heap.size w601 wr from ⟨hq.size, hq⟩)
          have BMa_ := BMa.out.below hq
          have BMb_ := BMb.out.below hq
          have BB_ := Below.next hq BB.out BB.out.size
          clear BMa BMb BB hq
          have BMa := Lib.hid BMa_
          have BMb := Lib.hid BMb_
          have BB := Lib.hid BB_
          clear BMa_ BMb_ BB_
          have HB0 := HB0_
          clear HB0_
          by_cases hlt : (k : Int) ≤ a.c + 4
          · obtain ⟨f1, f2, f3, f4, f5⟩ := HAT.out k hlt
            unfold bx at f3
            unfold byy at f4
            obtain ⟨u0, h_u0⟩ : ∃ v, pdX a p k = v := ⟨_, rfl⟩
            have HU0 := Lib.hid h_u0
            clear h_u0
            obtain ⟨v0, h_v0⟩ : ∃ v, pdY a p k = v := ⟨_, rfl⟩
            have HV0 := Lib.hid h_v0
            clear h_v0
            obtain ⟨u1, h_u1⟩ : ∃ v, pdX b q k = v := ⟨_, rfl⟩
            have HU1 := Lib.hid h_u1
            clear h_u1
            obtain ⟨v1, h_v1⟩ : ∃ v, pdY b q k = v := ⟨_, rfl⟩
            have HV1 := Lib.hid h_v1
            clear h_v1
            rw [HU0.out, HU1.out] at f3 f5
            rw [HV0.out, HV1.out] at f4 f5
            have F1 := Lib.hid f1
            have F2 := Lib.hid f2
            have F5 := Lib.hid f5
            have g1 := mul_bd2 f3.1 f3.2 f3.1 f3.2
            have g2 := mul_bd2 f4.1 f4.2 f4.1 f4.2
            have g3 := sq_nonneg (u0 - u1)
            have g4 := sq_nonneg (v0 - v1)
            have g5 := mul_bd (by omega : 0 ≤ a.c) hac.2 (by omega : 0 ≤ a.c) hac.2
            have g6 : 0 < a.c * a.c := Int.mul_pos (by omega) (by omega)
            have hw1 : IntKind.i64.wrap (u0 - u1) = u0 - u1 := IntWalk.i64_in _ (by omega)
            have hw2 : IntKind.i64.wrap (v0 - v1) = v0 - v1 := IntWalk.i64_in _ (by omega)
            have hw3 : IntKind.i64.wrap ((u0 - u1) * (u0 - u1)) = (u0 - u1) * (u0 - u1) := IntWalk.i64_in _ (by omega)
            have hw4 : IntKind.i64.wrap ((v0 - v1) * (v0 - v1)) = (v0 - v1) * (v0 - v1) := IntWalk.i64_in _ (by omega)
            have hw5 : IntKind.i64.wrap ((u0 - u1) * (u0 - u1) + (v0 - v1) * (v0 - v1)) = (u0 - u1) * (u0 - u1) + (v0 - v1) * (v0 - v1) := IntWalk.i64_in _ (by omega)
            have hw6 : IntKind.i64.wrap (a.c * a.c) = a.c * a.c := IntWalk.i64_in _ (by omega)
            have QL := Lib.hid (fun (w' : World) => qLess_any ((u0 - u1) * (u0 - u1) + (v0 - v1) * (v0 - v1)) (a.c * a.c) ta tb (by omega) (by omega) HBD.out.1 (by have := HBD.out.2.1; omega) g6 (by omega) HBD.out.2.2.1 HBD.out.2.2.2 w')
            clear f1 f2 f3 f4 f5 g1 g2 g3 g4 g5 g6
            obtain ⟨xa0, xa1, xa2, xa3, xa4⟩ := BMa.out.cells
            obtain ⟨xb0, xb1, xb2, xb3, xb4⟩ := BMb.out.cells
            go_wp2_with fail
            refine (impl_PlaceDelayed_any a p k _).mono ?_
            rintro e w701 ⟨he, hq⟩
            rw [HU0.out, HV0.out, F1.out] at he
            subst he
            have xa0_ := keep1 hq xa0
            have xa1_ := keep1 hq xa1
            have xa2_ := keep1 hq xa2
            have xa3_ := keep1 hq xa3
            have xa4_ := keep1 hq xa4
            have xb0_ := keep1 hq xb0
            have xb1_ := keep1 hq xb1
            have xb2_ := keep1 hq xb2
            have xb3_ := keep1 hq xb3
            have xb4_ := keep1 hq xb4
            have BMa_ := BMa.out.below hq
            have BMb_ := BMb.out.below hq
            have HB0_ := HB0.out.below hq
            have BB_ := Below.next hq BB.out BB.out.size
            clear xa0 xa1 xa2 xa3 xa4 xb0 xb1 xb2 xb3 xb4 BMa BMb HB0 BB hq
            have xa0 := xa0_
            have xa1 := xa1_
            have xa2 := xa2_
            have xa3 := xa3_
            have xa4 := xa4_
            have xb0 := xb0_
            have xb1 := xb1_
            have xb2 := xb2_
            have xb3 := xb3_
            have xb4 := xb4_
            have BMa := Lib.hid BMa_
            have BMb := Lib.hid BMb_
            have HB0 := Lib.hid HB0_
            have BB := Lib.hid BB_
            clear xa0_ xa1_ xa2_ xa3_ xa4_ xb0_ xb1_ xb2_ xb3_ xb4_ BMa_ BMb_ HB0_ BB_
            go_wp2_with fail
            refine (impl_PlaceDelayed_any b q k _).mono ?_
            rintro e w702 ⟨he, hq⟩
            rw [HU1.out, HV1.out, F2.out] at he
            subst he
            have xa0_ := keep1 hq xa0
            have xa1_ := keep1 hq xa1
            have xa2_ := keep1 hq xa2
            have xa3_ := keep1 hq xa3
            have xa4_ := keep1 hq xa4
            have xb0_ := keep1 hq xb0
            have xb1_ := keep1 hq xb1
            have xb2_ := keep1 hq xb2
            have xb3_ := keep1 hq xb3
            have xb4_ := keep1 hq xb4
            have BMa_ := BMa.out.below hq
            have BMb_ := BMb.out.below hq
            have HB0_ := HB0.out.below hq
            have BB_ := Below.next hq BB.out BB.out.size
            clear xa0 xa1 xa2 xa3 xa4 xb0 xb1 xb2 xb3 xb4 BMa BMb HB0 BB hq
            have xa0 := xa0_
            have xa1 := xa1_
            have xa2 := xa2_
            have xa3 := xa3_
            have xa4 := xa4_
            have xb0 := xb0_
            have xb1 := xb1_
            have xb2 := xb2_
            have xb3 := xb3_
            have xb4 := xb4_
            have BMa := Lib.hid BMa_
            have BMb := Lib.hid BMb_
            have HB0 := Lib.hid HB0_
            have BB := Lib.hid BB_
            clear xa0_ xa1_ xa2_ xa3_ xa4_ xb0_ xb1_ xb2_ xb3_ xb4_ BMa_ BMb_ HB0_ BB_
            go_wp2_with fail
            refine (spec_PlaceDelayed_any a p k _).mono ?_
            rintro e w703 ⟨he, hq⟩
            rw [HU0.out, HV0.out, F1.out] at he
            subst he
            have xa0_ := keep1 hq xa0
            have xa1_ := keep1 hq xa1
            have xa2_ := keep1 hq xa2
            have xa3_ := keep1 hq xa3
            have xa4_ := keep1 hq xa4
            have xb0_ := keep1 hq xb0
            have xb1_ := keep1 hq xb1
            have xb2_ := keep1 hq xb2
            have xb3_ := keep1 hq xb3
            have xb4_ := keep1 hq xb4
            have BMa_ := BMa.out.below hq
            have BMb_ := BMb.out.below hq
            have HB0_ := HB0.out.below hq
            have BB_ := Below.next hq BB.out BB.out.size
            clear xa0 xa1 xa2 xa3 xa4 xb0 xb1 xb2 xb3 xb4 BMa BMb HB0 BB hq
            have xa0 := xa0_
            have xa1 := xa1_
            have xa2 := xa2_
            have xa3 := xa3_
            have xa4 := xa4_
            have xb0 := xb0_
            have xb1 := xb1_
            have xb2 := xb2_
            have xb3 := xb3_
            have xb4 := xb4_
            have BMa := Lib.hid BMa_
            have BMb := Lib.hid BMb_
            have HB0 := Lib.hid HB0_
            have BB := Lib.hid BB_
            clear xa0_ xa1_ xa2_ xa3_ xa4_ xb0_ xb1_ xb2_ xb3_ xb4_ BMa_ BMb_ HB0_ BB_
            go_wp2_with fail
            refine (spec_PlaceDelayed_any b q k _).mono ?_
            rintro e w704 ⟨he, hq⟩
            rw [HU1.out, HV1.out, F2.out] at he
            subst he
            have xa0_ := keep1 hq xa0
            have xa1_ := keep1 hq xa1
            have xa2_ := keep1 hq xa2
            have xa3_ := keep1 hq xa3
            have xa4_ := keep1 hq xa4
            have xb0_ := keep1 hq xb0
            have xb1_ := keep1 hq xb1
            have xb2_ := keep1 hq xb2
            have xb3_ := keep1 hq xb3
            have xb4_ := keep1 hq xb4
            have BMa_ := BMa.out.below hq
            have BMb_ := BMb.out.below hq
            have HB0_ := HB0.out.below hq
            have BB_ := Below.next hq BB.out BB.out.size
            clear xa0 xa1 xa2 xa3 xa4 xb0 xb1 xb2 xb3 xb4 BMa BMb HB0 BB hq
            have xa0 := xa0_
            have xa1 := xa1_
            have xa2 := xa2_
            have xa3 := xa3_
            have xa4 := xa4_
            have xb0 := xb0_
            have xb1 := xb1_
            have xb2 := xb2_
            have xb3 := xb3_
            have xb4 := xb4_
            have BMa := Lib.hid BMa_
            have BMb := Lib.hid BMb_
            have HB0 := Lib.hid HB0_
            have BB := Lib.hid BB_
            clear xa0_ xa1_ xa2_ xa3_ xa4_ xb0_ xb1_ xb2_ xb3_ xb4_ BMa_ BMb_ HB0_ BB_
            go_wp2_with fail
            refine (QL.out _).mono ?_
            rintro e w705 ⟨he, hq⟩
            rw [F5.out] at he
            subst he
            have xa0_ := keep1 hq xa0
            have xa1_ := keep1 hq xa1
            have xa2_ := keep1 hq xa2
            have xa3_ := keep1 hq xa3
            have xa4_ := keep1 hq xa4
            have xb0_ := keep1 hq xb0
            have xb1_ := keep1 hq xb1
            have xb2_ := keep1 hq xb2
            have xb3_ := keep1 hq xb3
            have xb4_ := keep1 hq xb4
            have BMa_ := BMa.out.below hq
            have BMb_ := BMb.out.below hq
            have HB0_ := HB0.out.below hq
            have BB_ := Below.next hq BB.out BB.out.size
            clear xa0 xa1 xa2 xa3 xa4 xb0 xb1 xb2 xb3 xb4 BMa BMb HB0 BB hq
            have xa0 := xa0_
            have xa1 := xa1_
            have xa2 := xa2_
            have xa3 := xa3_
            have xa4 := xa4_
            have xb0 := xb0_
            have xb1 := xb1_
            have xb2 := xb2_
            have xb3 := xb3_
            have xb4 := xb4_
            have BMa := Lib.hid BMa_
            have BMb := Lib.hid BMb_
            have HB0 := Lib.hid HB0_
            have BB := Lib.hid BB_
            clear xa0_ xa1_ xa2_ xa3_ xa4_ xb0_ xb1_ xb2_ xb3_ xb4_ BMa_ BMb_ HB0_ BB_
            go_wp2_with fail
            go_roundw
            case rel => exact ⟨k + 1, by omega, by go_num, HB0.out.2⟩
            case measure => simp [intOf]; omega
          · clear HAT HBD
            obtain ⟨xa0, xa1, xa2, xa3, xa4⟩ := BMa.out.cells
            obtain ⟨xb0, xb1, xb2, xb3, xb4⟩ := BMb.out.cells
            by_cases hpq : p = q
            · subst hpq
              have HSM := Lib.hid (ld_same HOK.out)
              go_wp2_with fail
              refine (impl_LeastApart_any a b _).mono ?_
              rintro e w801 ⟨he, hq⟩
              rw [HSM.out.1, HSM.out.2.1, HSM.out.2.2, HTA.out, HTB.out] at he
              subst he
              have xa0_ := keep1 hq xa0
              have xa1_ := keep1 hq xa1
              have xa2_ := keep1 hq xa2
              have xa3_ := keep1 hq xa3
              have xa4_ := keep1 hq xa4
              have xb0_ := keep1 hq xb0
              have xb1_ := keep1 hq xb1
              have xb2_ := keep1 hq xb2
              have xb3_ := keep1 hq xb3
              have xb4_ := keep1 hq xb4
              have BMa_ := BMa.out.below hq
              have BMb_ := BMb.out.below hq
              have HB0_ := HB0.out.below hq
              have BB_ := Below.next hq BB.out BB.out.size
              clear xa0 xa1 xa2 xa3 xa4 xb0 xb1 xb2 xb3 xb4 BMa BMb HB0 BB hq
              have xa0 := xa0_
              have xa1 := xa1_
              have xa2 := xa2_
              have xa3 := xa3_
              have xa4 := xa4_
              have xb0 := xb0_
              have xb1 := xb1_
              have xb2 := xb2_
              have xb3 := xb3_
              have xb4 := xb4_
              have BMa := Lib.hid BMa_
              have BMb := Lib.hid BMb_
              have HB0 := Lib.hid HB0_
              have BB := Lib.hid BB_
              clear xa0_ xa1_ xa2_ xa3_ xa4_ xb0_ xb1_ xb2_ xb3_ xb4_ BMa_ BMb_ HB0_ BB_
              go_wp2_with fail
              refine (spec_LeastApart_any a b _).mono ?_
              rintro e w802 ⟨he, hq⟩
              rw [HSM.out.1, HSM.out.2.1, HSM.out.2.2, HTA.out, HTB.out] at he
              subst he
              have xa0_ := keep1 hq xa0
              have xa1_ := keep1 hq xa1
              have xa2_ := keep1 hq xa2
              have xa3_ := keep1 hq xa3
              have xa4_ := keep1 hq xa4
              have xb0_ := keep1 hq xb0
              have xb1_ := keep1 hq xb1
              have xb2_ := keep1 hq xb2
              have xb3_ := keep1 hq xb3
              have xb4_ := keep1 hq xb4
              have BMa_ := BMa.out.below hq
              have BMb_ := BMb.out.below hq
              have HB0_ := HB0.out.below hq
              have BB_ := Below.next hq BB.out BB.out.size
              clear xa0 xa1 xa2 xa3 xa4 xb0 xb1 xb2 xb3 xb4 BMa BMb HB0 BB hq
              have xa0 := xa0_
              have xa1 := xa1_
              have xa2 := xa2_
              have xa3 := xa3_
              have xa4 := xa4_
              have xb0 := xb0_
              have xb1 := xb1_
              have xb2 := xb2_
              have xb3 := xb3_
              have xb4 := xb4_
              have BMa := Lib.hid BMa_
              have BMb := Lib.hid BMb_
              have HB0 := Lib.hid HB0_
              have BB := Lib.hid BB_
              clear xa0_ xa1_ xa2_ xa3_ xa4_ xb0_ xb1_ xb2_ xb3_ xb4_ BMa_ BMb_ HB0_ BB_
              go_wp2_with fail
              go_ret
              exact ⟨rfl, BB.out⟩
            · have hpe : (p == q) = false := beq_eq_false_iff_ne.2 hpq
              go_wp2_with fail
              go_ret
              exact ⟨rfl, BB.out⟩
end Go.Proofs.YthehcjfljjfnmaaGreat
