/-
  The walk of the law of sheets.
-/
import Derived.Test.YtbgbcajcajaocaaFsb
import Derived.Test.YtbgbcajcajaocaaFrame
import Derived.Deep.DeepCutAuto
namespace Go.Proofs.Ytbgbcajcajaocaa
open Go.RowKit
open Go.Sort (grow)

theorem code_of {w : World} {A : Option Addr} {L : List Int} {c : Nat} (hm : Mem w A (L.flatMap fun n => [Value.int .u8 n])) (ho : ∀ x ∈ L, okByte x) (h1 : L.length ≤ c) (h2 : c ≤ maxLen) : code w A L :=
  ⟨hm, fun x hx => by have := ho x hx; unfold okByte at this; omega, by unfold maxLen at h2; omega⟩
theorem sfV_le (G : List (List Sp)) (C : List Int) (p : Int) : (sfV G C p).length ≤ C.length := by
  unfold sfV
  split
  · rw [soTo_len]; exact Nat.le_refl _
  · exact Nat.zero_le _
theorem sf_yes {G : List (List Sp)} {C : List Int} {p : Int} (h : sfOk G C p = true) : ∃ j : Nat, p = (j : Int) ∧ j < row0 G ∧ acOk G C = true ∧ sfP G C p = (j : Int) ∧ sfS G C p = soS G j ∧ sfV G C p = soTo G C j C.length := by
  have h0 := h
  rw [sfOk, Bool.and_eq_true, inR_iff] at h0
  obtain ⟨j, rfl⟩ := Int.eq_ofNat_of_zero_le h0.2.1
  exact ⟨j, rfl, by omega, h0.1, by simp [sfP, h], by simp [sfS, h], by simp [sfV, h]⟩
theorem sf_of {G : List (List Sp)} {C : List Int} {k : Nat} (h : acOk G C = true) (hk : k < row0 G) : sfP G C (k : Int) = (k : Int) ∧ sfS G C (k : Int) = soS G k ∧ sfV G C (k : Int) = soTo G C k C.length ∧ sfOk G C (k : Int) = true := by
  have e : sfOk G C (k : Int) = true := by rw [sfOk, h, Bool.true_and, inR_iff]; omega
  exact ⟨by simp [sfP, e], by simp [sfS, e], by simp [sfV, e], e⟩
theorem coGV_bd (S : List Sh) : (coGV S).length ≤ 9 ∧ (coCV S).length ≤ 8 ∧ ∀ L ∈ coGV S, L.length ≤ 12 := by
  cases h : coOk S
  · simp [coGV, coCV, h]
  · have h0 : acOk (coG S) (coC S) = true := by
      have h1 := h
      rw [coOk, Bool.and_eq_true] at h1
      exact h1.2
    have h2 := acOk_iff.1 h0
    rw [coGV, coCV, if_pos h, if_pos h]
    refine ⟨by omega, by omega, fun L hL => ?_⟩
    obtain ⟨k, hk⟩ := List.getElem?_of_mem hL
    have := ac_row h0 hk
    omega
def Beh (B : Nat) (w w' : World) : Prop := B ≤ w'.heap.size ∧ Below B w w'
theorem Beh.below {B : Nat} {w w' w'' : World} (h : Beh B w w') (hq : Below w'.heap.size w' w'') : Beh B w w'' := ⟨Nat.le_trans h.1 hq.size, h.2.trans (hq.mono h.1)⟩
theorem spA {wA w5 : World} {x y : Int} (hb : Below wA.drew.heap.size wA.drew w5) : (w5.alloc (.cells #[.int .i64 x, .int .i64 y] 26)).cell? ⟨w5.heap.size, 0, none⟩ = some (.int .i64 x) ∧ (w5.alloc (.cells #[.int .i64 x, .int .i64 y] 26)).cell? ⟨w5.heap.size, 1, none⟩ = some (.int .i64 y) ∧ Below wA.heap.size wA (w5.alloc (.cells #[.int .i64 x, .int .i64 y] 26)) :=
  ⟨(Blk.new w5 #[.int .i64 x, .int .i64 y] 26).cell 0, (Blk.new w5 #[.int .i64 x, .int .i64 y] 26).cell 1, ((Below.refl wA.heap.size wA).drew.trans hb).alloc hb.size _⟩
theorem spB {wA w5 : World} {O : Obj} {a b : Value} {x y : Int} (hb : Below (wA.alloc O).drew.heap.size (wA.alloc O).drew w5) (hz : Blk w5 wA.heap.size #[a, b] 26) : ((w5.setCell ⟨wA.heap.size, 0, none⟩ (.int .i64 x)).setCell ⟨wA.heap.size, 1, none⟩ (.int .i64 y)).cell? ⟨wA.heap.size, 0, none⟩ = some (.int .i64 x) ∧ ((w5.setCell ⟨wA.heap.size, 0, none⟩ (.int .i64 x)).setCell ⟨wA.heap.size, 1, none⟩ (.int .i64 y)).cell? ⟨wA.heap.size, 1, none⟩ = some (.int .i64 y) ∧ Below wA.heap.size wA ((w5.setCell ⟨wA.heap.size, 0, none⟩ (.int .i64 x)).setCell ⟨wA.heap.size, 1, none⟩ (.int .i64 y)) :=
  ⟨((hz.set 0 _).set 1 _).cell 0, ((hz.set 0 _).set 1 _).cell 1, (((below_alloc wA O).drew.trans (hb.mono (below_alloc wA O).size)).setCell (Nat.le_refl _) _).setCell (Nat.le_refl _) _⟩
theorem memD {w : World} {A : Option Addr} {xs : List Value} {o : Obj} (h : Mem w A xs) : Mem (w.alloc o) A xs := h.below (below_alloc _ _)
theorem memE {w : World} {A : Option Addr} {xs : List Value} (h : Mem w A xs) : Mem w.drew A xs := h
theorem blk_belowN {w w' : World} {b : Nat} {cs : Array Value} {t : TypeId} (h : Below w.heap.size w w') (hb : Blk w b cs t) : Blk w' b cs t := hb.below h hb.lt
theorem keepW4 {w w' : World} {b : Nat} {v0 v1 v2 v3 : Value} (h : Below w.heap.size w w') (hS : Box4 w b v0 v1 v2 v3) : Box4 w' b v0 v1 v2 v3 := ⟨keep1 h hS.1, keep1 h hS.2.1, keep1 h hS.2.2.1, keep1 h hS.2.2.2⟩
theorem keepQ4 {w : World} {b q : Nat} {v0 v1 v2 v3 x0 x1 : Value} (hne : q ≠ b) (h : Box4 w b v0 v1 v2 v3) : Box4 ((w.setCell ⟨q, 0, none⟩ x0).setCell ⟨q, 1, none⟩ x1) b v0 v1 v2 v3 :=
  ⟨keepP1 (keepP1 h.1 hne) hne, keepP1 (keepP1 h.2.1 hne) hne, keepP1 (keepP1 h.2.2.1 hne) hne, keepP1 (keepP1 h.2.2.2 hne) hne⟩

set_option maxRecDepth 100000 in
set_option maxHeartbeats 20000000 in
theorem FnSheets_walk (A0 : Option Addr) (c0 : Nat) (L0 : List Int) (A1 : Option Addr) (c1 : Nat) (L1 : List Int) (W : World) (m0 : Mem W A0 (L0.flatMap fun n => [Value.int .u8 n])) (k0 : ∀ x ∈ L0, okByte x) (l0 : L0.length ≤ c0) (n0 : c0 ≤ maxLen)
    (m1 : Mem W A1 (L1.flatMap fun n => [Value.int .u8 n])) (k1 : ∀ x ∈ L1, okByte x) (l1 : L1.length ≤ c1) (n1 : c1 ≤ maxLen) :
    Calls Try.prog 5 #[.slice A0 L0.length c0, .slice A1 L1.length c1] W fun e W' => e = .returned (.bool true) ∧ Below W.heap.size W W' := by
  have K0 := Lib.hid (code_of m0 k0 l0 n0)
  have K1 := Lib.hid (code_of m1 k1 l1 n1)
  unfold maxLen at n0 n1
  have q0 : L0.length ≤ 9223372036854775807 := by omega
  have BB := Lib.hid (Below.refl W.heap.size W)
  clear m0 k0 m1 k1
  clear l0 n0 l1 n1
  go_enter Try.func5, Try.ntmps5
  go_wp2_with fail
  refine (big_any _ _ _ _ _ _ _ q0).mono ?_
  rintro e _ ⟨b, rfl, rfl⟩
  cases b
  case true =>
    go_wp2
    go_ret
    exact ⟨rfl, Below.refl _ _⟩
  go_wp2_with fail
  refine (drawSheetOf_any _ _ _ _ K0.out).mono ?_
  rintro e w1 ⟨n, A, c, hs, B, d, C, p, rfl, hci, hn, hln, hcl, hq⟩
  have hlen := hci.len
  subst hlen
  have X_n := Lib.hid hci
  have HR := Lib.hid (show ∀ (k : Nat) (h : Hdr Sp), hs[k]? = some h → h.L.length ≤ 1048576 ∧ h.L.length ≤ h.c from fun k h hk => ⟨by have := hln k h hk; omega, hci.cap hk⟩)
  clear hci hln
  have K0_ := K0.out.below hq
  have K1_ := K1.out.below hq
  have BB_ := Below.next hq BB.out BB.out.size
  clear K0 K1 BB hq
  have K0 := Lib.hid K0_
  have K1 := Lib.hid K1_
  have BB := Lib.hid BB_
  clear K0_ K1_ BB_
  have X := X_n
  clear X_n
  clear K0
  have hvl : (sfV (lns hs) C p).length ≤ 12 := Nat.le_trans (sfV_le _ _ _) hcl
  obtain ⟨P, h_P⟩ : ∃ v, sfP (lns hs) C p = v := ⟨_, rfl⟩
  have HP := Lib.hid h_P
  clear h_P
  obtain ⟨S, h_S⟩ : ∃ v, sfS (lns hs) C p = v := ⟨_, rfl⟩
  have HS := Lib.hid h_S
  clear h_S
  obtain ⟨V, h_V⟩ : ∃ v, sfV (lns hs) C p = v := ⟨_, rfl⟩
  have HV := Lib.hid h_V
  clear h_V
  obtain ⟨ok, h_ok⟩ : ∃ v, sfOk (lns hs) C p = v := ⟨_, rfl⟩
  have HO := Lib.hid h_ok
  clear h_ok
  rw [HV.out] at hvl
  go_wp2_with fail
  refine (impl_SheetOf_any _ _ hs _ _ C p _ X.out.grid (Mem.of_own X.out.ints_) (by omega) (by omega) HR.out).mono ?_
  rintro e w2 ⟨As, cs, he, ho, hq⟩
  rw [HP.out, HS.out, HV.out, HO.out] at he
  rw [HV.out] at ho
  subst he
  have Ms_n := Lib.hid (Mem.of_own ho)
  clear ho
  have K1_ := K1.out.below hq
  have X_ := X.out.below hq
  have BB_ := Below.next hq BB.out BB.out.size
  clear K1 X BB hq
  have K1 := Lib.hid K1_
  have X := Lib.hid X_
  have BB := Lib.hid BB_
  clear K1_ X_ BB_
  have Ms := Ms_n
  clear Ms_n
  have hq : Below w2.heap.size w2 (w2.alloc (.cells #[.int .i64 P, .int .i64 S.x, .int .i64 S.y, .slice As V.length cs] 29)) := (Below.refl _ _).alloc (Nat.le_refl _) _
  have K1_ := K1.out.below hq
  have X_ := X.out.below hq
  have Ms_ := Ms.out.below hq
  have BB_ := Below.next hq BB.out BB.out.size
  clear K1 X Ms BB hq
  have K1 := Lib.hid K1_
  have X := Lib.hid X_
  have Ms := Lib.hid Ms_
  have BB := Lib.hid BB_
  clear K1_ X_ Ms_ BB_
  have zs0 : (w2.alloc (.cells #[.int .i64 P, .int .i64 S.x, .int .i64 S.y, .slice As V.length cs] 29)).cell? ⟨w2.heap.size, 0, none⟩ = some (.int .i64 P) := by simp [go_sem]
  have zs1 : (w2.alloc (.cells #[.int .i64 P, .int .i64 S.x, .int .i64 S.y, .slice As V.length cs] 29)).cell? ⟨w2.heap.size, 1, none⟩ = some (.int .i64 S.x) := by simp [go_sem]
  have zs2 : (w2.alloc (.cells #[.int .i64 P, .int .i64 S.x, .int .i64 S.y, .slice As V.length cs] 29)).cell? ⟨w2.heap.size, 2, none⟩ = some (.int .i64 S.y) := by simp [go_sem]
  have zs3 : (w2.alloc (.cells #[.int .i64 P, .int .i64 S.x, .int .i64 S.y, .slice As V.length cs] 29)).cell? ⟨w2.heap.size, 3, none⟩ = some (.slice As V.length cs) := by simp [go_sem]
  go_wp2_with fail
  refine (spec_SheetOf_any _ _ hs _ _ C p _ X.out.grid (Mem.of_own X.out.ints_) (by omega) (by omega) HR.out).mono ?_
  rintro e w3 ⟨At, ct, he, ho, hq⟩
  rw [HP.out, HS.out, HV.out, HO.out] at he
  rw [HV.out] at ho
  subst he
  have Mt_n := Lib.hid (Mem.of_own ho)
  clear ho
  have zs0_ := keep1 hq zs0
  have zs1_ := keep1 hq zs1
  have zs2_ := keep1 hq zs2
  have zs3_ := keep1 hq zs3
  have K1_ := K1.out.below hq
  have X_ := X.out.below hq
  have Ms_ := Ms.out.below hq
  have BB_ := Below.next hq BB.out BB.out.size
  clear zs0 zs1 zs2 zs3 K1 X Ms BB hq
  have zs0 := zs0_
  have zs1 := zs1_
  have zs2 := zs2_
  have zs3 := zs3_
  have K1 := Lib.hid K1_
  have X := Lib.hid X_
  have Ms := Lib.hid Ms_
  have BB := Lib.hid BB_
  clear zs0_ zs1_ zs2_ zs3_ K1_ X_ Ms_ BB_
  have Mt := Mt_n
  clear Mt_n
  have hq : Below w3.heap.size w3 (w3.alloc (.cells #[.int .i64 P, .int .i64 S.x, .int .i64 S.y, .slice At V.length ct] 29)) := (Below.refl _ _).alloc (Nat.le_refl _) _
  have zs0_ := keep1 hq zs0
  have zs1_ := keep1 hq zs1
  have zs2_ := keep1 hq zs2
  have zs3_ := keep1 hq zs3
  have K1_ := K1.out.below hq
  have X_ := X.out.below hq
  have Ms_ := Ms.out.below hq
  have Mt_ := Mt.out.below hq
  have BB_ := Below.next hq BB.out BB.out.size
  clear zs0 zs1 zs2 zs3 K1 X Ms Mt BB hq
  have zs0 := zs0_
  have zs1 := zs1_
  have zs2 := zs2_
  have zs3 := zs3_
  have K1 := Lib.hid K1_
  have X := Lib.hid X_
  have Ms := Lib.hid Ms_
  have Mt := Lib.hid Mt_
  have BB := Lib.hid BB_
  clear zs0_ zs1_ zs2_ zs3_ K1_ X_ Ms_ Mt_ BB_
  have zt0 : (w3.alloc (.cells #[.int .i64 P, .int .i64 S.x, .int .i64 S.y, .slice At V.length ct] 29)).cell? ⟨w3.heap.size, 0, none⟩ = some (.int .i64 P) := by simp [go_sem]
  have zt1 : (w3.alloc (.cells #[.int .i64 P, .int .i64 S.x, .int .i64 S.y, .slice At V.length ct] 29)).cell? ⟨w3.heap.size, 1, none⟩ = some (.int .i64 S.x) := by simp [go_sem]
  have zt2 : (w3.alloc (.cells #[.int .i64 P, .int .i64 S.x, .int .i64 S.y, .slice At V.length ct] 29)).cell? ⟨w3.heap.size, 2, none⟩ = some (.int .i64 S.y) := by simp [go_sem]
  have zt3 : (w3.alloc (.cells #[.int .i64 P, .int .i64 S.x, .int .i64 S.y, .slice At V.length ct] 29)).cell? ⟨w3.heap.size, 3, none⟩ = some (.slice At V.length ct) := by simp [go_sem]
  go_wp2_with fail
  refine (pSameSheet_same P S As At cs ct V _ Ms.out Mt.out (by omega)).mono ?_
  rintro e w4 ⟨rfl, hq⟩
  have zs0_ := keep1 hq zs0
  have zs1_ := keep1 hq zs1
  have zs2_ := keep1 hq zs2
  have zs3_ := keep1 hq zs3
  have zt0_ := keep1 hq zt0
  have zt1_ := keep1 hq zt1
  have zt2_ := keep1 hq zt2
  have zt3_ := keep1 hq zt3
  have K1_ := K1.out.below hq
  have X_ := X.out.below hq
  have Ms_ := Ms.out.below hq
  have Mt_ := Mt.out.below hq
  have BB_ := Below.next hq BB.out BB.out.size
  clear zs0 zs1 zs2 zs3 zt0 zt1 zt2 zt3 K1 X Ms Mt BB hq
  have zs0 := zs0_
  have zs1 := zs1_
  have zs2 := zs2_
  have zs3 := zs3_
  have zt0 := zt0_
  have zt1 := zt1_
  have zt2 := zt2_
  have zt3 := zt3_
  have K1 := Lib.hid K1_
  have X := Lib.hid X_
  have Ms := Lib.hid Ms_
  have Mt := Lib.hid Mt_
  have BB := Lib.hid BB_
  clear zs0_ zs1_ zs2_ zs3_ zt0_ zt1_ zt2_ zt3_ K1_ X_ Ms_ Mt_ BB_
  clear Mt zt0 zt1 zt2 zt3
  generalize hbs : w2.heap.size = bs at zs0 zs1 zs2 zs3 ⊢
  clear hbs
  go_upto_if 78 with (fail)
  go_cut [] from 79 to 191 (fun wx => Below W.heap.size W wx ∧ Hid (code wx A1 L1))
  case first => as_aux_lemma =>
    cases ok
    · go_wp2
      go_meet
      exact ⟨BB.out, K1⟩
    obtain ⟨j, rfl, hj, hac, eP, eS, eV⟩ := sf_yes HO.out
    obtain rfl : P = (j : Int) := HP.out.symm.trans eP
    have HEV := Lib.hid (HV.out.symm.trans eV)
    have HES := Lib.hid (HS.out.symm.trans eS)
    have HAC := Lib.hid hac
    have hC9 : C.length ≤ 8 := by have := (acOk_iff.1 hac).2.1; have := (acOk_iff.1 hac).2.2.1; omega
    have hCh : hs.length = C.length + 1 := by have := (acOk_iff.1 hac).2.2.1; rw [lns_len] at this; omega
    have hV8 : V.length ≤ 8 := by rw [HEV.out, soTo_len]; omega
    have FOK := Lib.hid (show shOk (j : Int) S V = true by rw [HES.out, HEV.out]; exact so_ok hac hj)
    have FLD := Lib.hid (show ldV (j : Int) S V = gat (lns hs) C.length j by rw [HES.out, HEV.out]; exact so_leads hac hj)
    have FSE := Lib.hid (show saV (j : Int) S V (smTo C C.length) = gat (lns hs) C.length j ∧ saOk (j : Int) S V (smTo C C.length) = true by rw [HES.out, HEV.out]; exact so_end hac hj)
    have FSA := Lib.hid (show ∀ k, k < C.length → saV (j : Int) S V (smTo C (k + 1)) = gat (lns hs) (k + 1) j ∧ saOk (j : Int) S V (smTo C (k + 1)) = true from fun k hk => by rw [HES.out, HEV.out]; exact so_after hac hj hk)
    have HCA := Lib.hid (cnt_all hac)
    have HCH := Lib.hid hCh
    have HJ := Lib.hid hj
    obtain ⟨u, hu⟩ : ∃ u, gat (lns hs) C.length j = u := ⟨_, rfl⟩
    have HU := Lib.hid hu
    clear hac hCh eP eS eV HP HV HS HO hu hj
    go_wp2_with fail
    refine (impl_LeadsTo_any (j : Int) S _ _ V _ Ms.out (by omega)).mono ?_
    rintro e w101 ⟨he, hq⟩
    rw [FLD.out, FOK.out, HU.out] at he
    subst he
    have zs0_ := keep1 hq zs0
    have zs1_ := keep1 hq zs1
    have zs2_ := keep1 hq zs2
    have zs3_ := keep1 hq zs3
    have K1_ := K1.out.below hq
    have X_ := X.out.below hq
    have Ms_ := Ms.out.below hq
    have BB_ := Below.next hq BB.out BB.out.size
    clear zs0 zs1 zs2 zs3 K1 X Ms BB hq
    have zs0 := zs0_
    have zs1 := zs1_
    have zs2 := zs2_
    have zs3 := zs3_
    have K1 := Lib.hid K1_
    have X := Lib.hid X_
    have Ms := Lib.hid Ms_
    have BB := Lib.hid BB_
    clear zs0_ zs1_ zs2_ zs3_ K1_ X_ Ms_ BB_
    have hq : Below w101.heap.size w101 (w101.alloc (.cells #[.int .i64 u.x, .int .i64 u.y] 26)) := (Below.refl _ _).alloc (Nat.le_refl _) _
    have zs0_ := keep1 hq zs0
    have zs1_ := keep1 hq zs1
    have zs2_ := keep1 hq zs2
    have zs3_ := keep1 hq zs3
    have K1_ := K1.out.below hq
    have X_ := X.out.below hq
    have Ms_ := Ms.out.below hq
    have BB_ := Below.next hq BB.out BB.out.size
    clear zs0 zs1 zs2 zs3 K1 X Ms BB hq
    have zs0 := zs0_
    have zs1 := zs1_
    have zs2 := zs2_
    have zs3 := zs3_
    have K1 := Lib.hid K1_
    have X := Lib.hid X_
    have Ms := Lib.hid Ms_
    have BB := Lib.hid BB_
    clear zs0_ zs1_ zs2_ zs3_ K1_ X_ Ms_ BB_
    have a0 : (w101.alloc (.cells #[.int .i64 u.x, .int .i64 u.y] 26)).cell? ⟨w101.heap.size, 0, none⟩ = some (.int .i64 u.x) := by simp [go_sem]
    have a1 : (w101.alloc (.cells #[.int .i64 u.x, .int .i64 u.y] 26)).cell? ⟨w101.heap.size, 1, none⟩ = some (.int .i64 u.y) := by simp [go_sem]
    go_upto_region 10 with (fail)
    generalize (w101.alloc (.cells #[.int .i64 u.x, .int .i64 u.y] 26)) = wA at *
    generalize w101.heap.size = ba at *
    go_cut [14, 15] from 84 to 90 (fun v14 v15 wx => ∃ be, v14 = .pointer (some ⟨be, 0, none⟩) ∧ v15 = .bool true ∧ wx.cell? ⟨be, 0, none⟩ = some (.int .i64 u.x) ∧ wx.cell? ⟨be, 1, none⟩ = some (.int .i64 u.y) ∧ Below wA.heap.size wA wx)
    case first => as_aux_lemma =>
      have CS := Lib.hid (show wA.cell? ⟨bs, 0, none⟩ = some (.int .i64 (j : Int)) ∧ wA.cell? ⟨bs, 1, none⟩ = some (.int .i64 S.x) ∧ wA.cell? ⟨bs, 2, none⟩ = some (.int .i64 S.y) ∧ wA.cell? ⟨bs, 3, none⟩ = some (.slice As V.length cs) from ⟨zs0, zs1, zs2, zs3⟩)
      have HMI := Lib.hid (Mem.of_own X.out.ints_)
      have HSB := Lib.hid (smTo_bound HCA.out C.length)
      have CP := Lib.hid (fun (w' : World) (hm : Mem w' B (ints C)) => pSum_any B d C w' hm HCA.out (by omega))
      have CA := Lib.hid (fun (w' : World) (hm : Mem w' As (rows V)) => (impl_SpotAfter_any (j : Int) S As cs V (smTo C C.length) w' hm (by omega) (by unfold okInt; have := HSB.out; omega)).mono (R' := fun e w'' => e = .returned (.tuple #[.agg #[.int .i64 u.x, .int .i64 u.y], .bool true]) ∧ Below w'.heap.size w' w'') (by
        rintro e w'' ⟨he, hq⟩
        rw [FSE.out.1, FSE.out.2, HU.out] at he
        exact ⟨he, hq⟩))
      have hzb : wA.heap.size ≠ bs := fun e => by have := World.block_lt_of_cell? wA ⟨bs, 0, none⟩ zs0; simp at this; omega
      clear zs0 zs1 zs2 zs3 a0 a1
      go_region_held3 (fun wx => wx.cell? ⟨bs, 0, none⟩ = some (.int .i64 (j : Int)) ∧ wx.cell? ⟨bs, 1, none⟩ = some (.int .i64 S.x) ∧ wx.cell? ⟨bs, 2, none⟩ = some (.int .i64 S.y) ∧ wx.cell? ⟨bs, 3, none⟩ = some (.slice As V.length cs))
        (repeat (first | with_reducible exact CS.out | with_reducible exact hS5 | with_reducible refine keepE4 ?_ | with_reducible refine keepD4 ?_ | with_reducible refine keepQ4 hzb ?_))
        (first
          | (go_at_call 31; (first | (refine (CP.out _ ?_).mono ?_) | fail); (focus (repeat (first | with_reducible exact HMI.out | with_reducible refine memD ?_ | with_reducible refine memE ?_))); rintro e w8 ⟨rfl, rfl⟩)
          | (go_at_call 30; (first | (refine (CA.out _ ?_).mono ?_) | fail); (focus (repeat (first | with_reducible exact Ms.out | with_reducible refine memD ?_ | with_reducible refine memE ?_))); rintro e w5 ⟨rfl, hb5⟩; have hS5 : w5.cell? ⟨bs, 0, none⟩ = some (.int .i64 (j : Int)) ∧ w5.cell? ⟨bs, 1, none⟩ = some (.int .i64 S.x) ∧ w5.cell? ⟨bs, 2, none⟩ = some (.int .i64 S.y) ∧ w5.cell? ⟨bs, 3, none⟩ = some (.slice As V.length cs) := keepW4 hb5 (by repeat (first | with_reducible exact CS.out | with_reducible refine keepE4 ?_ | with_reducible refine keepD4 ?_)); (first | have BZ := blk_belowN hb5 (Blk.new wA #[.int .i64 0, .int .i64 0] 26) | have BZ := blk_belowN hb5 (Blk.drew (Blk.new wA #[.int .i64 0, .int .i64 0] 26)) | have BZ := blk_belowN hb5 (Blk.new wA.drew #[.int .i64 0, .int .i64 0] 26) | skip); (try have u0 := BZ.frozen 0); (try have u1 := BZ.frozen 1); (try have u2 := BZ.cell 0); (try have u3 := BZ.cell 1); (try simp at u2); (try simp at u3); (try have hlz := BZ.lt)))
      all_goals
        rename_i hHeld
        clear hHeld
        go_wp2_with fail
        go_meet
        first
          | exact ⟨_, rfl, rfl, spA hb5⟩
          | exact ⟨_, rfl, rfl, spB hb5 BZ⟩
    case rest => as_aux_lemma =>
      obtain ⟨bq, rfl, rfl, b0, b1, hq⟩ := hcut
      clear FSE
      have zs0_ := keep1 hq zs0
      have zs1_ := keep1 hq zs1
      have zs2_ := keep1 hq zs2
      have zs3_ := keep1 hq zs3
      have a0_ := keep1 hq a0
      have a1_ := keep1 hq a1
      have K1_ := K1.out.below hq
      have X_ := X.out.below hq
      have Ms_ := Ms.out.below hq
      have BB_ := Below.next hq BB.out BB.out.size
      clear zs0 zs1 zs2 zs3 a0 a1 K1 X Ms BB hq
      have zs0 := zs0_
      have zs1 := zs1_
      have zs2 := zs2_
      have zs3 := zs3_
      have a0 := a0_
      have a1 := a1_
      have K1 := Lib.hid K1_
      have X := Lib.hid X_
      have Ms := Lib.hid Ms_
      have BB := Lib.hid BB_
      clear zs0_ zs1_ zs2_ zs3_ a0_ a1_ K1_ X_ Ms_ BB_
      obtain ⟨xe, hxe⟩ := some_of_lt (L := hs) (k := C.length) (by have := HCH.out; omega)
      obtain ⟨be, oe, eAe, ge⟩ := hdr_cell X.out.grid.mem hxe
      have hje : j < xe.L.length := by rw [(ac_row HAC.out (lns_at hxe)).2.1]; exact HJ.out
      obtain ⟨te, hte⟩ := some_of_lt hje
      obtain ⟨de, pe, eBe, se, re⟩ := (X.out.grid.row _ xe hxe).spot hte
      rw [eBe] at ge
      have GAe := Lib.hid (gat_at (lns_at hxe) hte)
      have hle := (HR.out _ xe hxe).1
      clear hxe hte eBe
      have htu : te = u := GAe.out.symm.trans HU.out
      subst htu
      obtain rfl := eAe
      have j1 : (hs.length : Int) - 1 < (hs.length : Int) := by omega
      have j2 : (0 : Int) ≤ (hs.length : Int) - 1 := by have := HCH.out; omega
      have j3 : ((hs.length : Int) - 1).toNat = C.length := by have := HCH.out; omega
      have j4 : (j : Int) < (xe.L.length : Int) := by omega
      have q0_ := cell_regrown (w := wc) zs0
      have q1_ := cell_regrown (w := wc) zs1
      have q2_ := cell_regrown (w := wc) zs2
      have q3_ := cell_regrown (w := wc) zs3
      have q4_ := cell_regrown (w := wc) a0
      have q5_ := cell_regrown (w := wc) a1
      have q6_ := cell_regrown (w := wc) b0
      have q7_ := cell_regrown (w := wc) b1
      have q8_ := cell_regrown (w := wc) ge
      have q9_ := cell_regrown (w := wc) se
      have q10_ := cell_regrown (w := wc) re
      have C1 := Lib.hid (show ∀ dd os, Calls Try.prog 32 #[.agg #[.int .i64 (j : Int), .int .i64 S.x, .int .i64 S.y, .slice As V.length cs]] (grow (redrawn wc dd) os) fun e w'' => e = .returned (.bool true) ∧ ∃ p : Regrown, w'' = grow (redrawn wc p.d) p.os from fun dd os => Calls.regrown_of ((IsSheet_any (j : Int) S As cs V _ (Ms.out.below (below_regrown wc dd os)) (by omega)).mono (by rintro e w' ⟨he, hq⟩; rw [FOK.out] at he; exact ⟨he, hq⟩)))
      go_wp2
      refine wp_region_quiet_below (by kernel_rfl) (by kernel_rfl) ?_
      repeat (first | go_big_quiet_step (exact C1.out _ _) | quiet_step (exact C1.out _ _))
      refine wpQuiet_nil ?_
      intro _ hw'
      obtain ⟨⟨dq, osq⟩, hw''⟩ := hw'
      subst hw''
      have hq := below_regrown wc dq osq
      clear q0_ q1_ q2_ q3_ q4_ q5_ q6_ q7_ q8_ q9_ q10_ C1
      generalize grow (redrawn wc dq) osq = w201 at *
      have zs0_ := keep1 hq zs0
      have zs1_ := keep1 hq zs1
      have zs2_ := keep1 hq zs2
      have zs3_ := keep1 hq zs3
      have a0_ := keep1 hq a0
      have a1_ := keep1 hq a1
      have b0_ := keep1 hq b0
      have b1_ := keep1 hq b1
      have K1_ := K1.out.below hq
      have X_ := X.out.below hq
      have Ms_ := Ms.out.below hq
      have BB_ := Below.next hq BB.out BB.out.size
      clear zs0 zs1 zs2 zs3 a0 a1 b0 b1 K1 X Ms BB hq
      have zs0 := zs0_
      have zs1 := zs1_
      have zs2 := zs2_
      have zs3 := zs3_
      have a0 := a0_
      have a1 := a1_
      have b0 := b0_
      have b1 := b1_
      have K1 := Lib.hid K1_
      have X := Lib.hid X_
      have Ms := Lib.hid Ms_
      have BB := Lib.hid BB_
      clear zs0_ zs1_ zs2_ zs3_ a0_ a1_ b0_ b1_ K1_ X_ Ms_ BB_
      clear a0 a1 b0 b1
      clear ge se re hje
      obtain ⟨x0, hx0⟩ := some_of_lt (L := hs) (k := 0) (by have := HCH.out; omega)
      obtain ⟨b0, o0, e0_, g0⟩ := hdr_cell X.out.grid.mem hx0
      rw [Nat.add_zero] at g0
      obtain ⟨e1_, e2_, _⟩ := Addr.mk.inj (Option.some.inj e0_)
      subst e1_ e2_
      have HX0 := Lib.hid ((ac_row HAC.out (lns_at hx0)).2.1)
      have hx12 : x0.L.length ≤ 12 := by have := (ac_row HAC.out (lns_at hx0)).2; omega
      have hh0 : (0 : Int) < (hs.length : Int) := by have := HCH.out; omega
      clear hx0 e0_ j1 j2 j3 j4
      obtain ⟨i0, hi, hz0, hz1, hz2⟩ := info_parts info_sheet
      go_wp2_with fail
      clear g0
      go_loopw [16, 124] (fun lv iv wr => ∃ (k : Nat) (Ls : List Shd), k ≤ x0.L.length ∧ iv = .int .i64 k ∧ SI wr w201.heap.size lv k Ls ∧ Hid (shv Ls = shAll (lns hs) C k) ∧ Below w201.heap.size w201 wr) (fun _ iv _ => x0.L.length - (intOf iv).toNat)
      case atStart => exact ⟨0, [], by omega, rfl, SI.nil _ _, Lib.hid rfl, Below.refl _ _⟩
      case round =>
        obtain ⟨k, Ls, hk, rfl, hsi, HSH, hb⟩ := hrel
        obtain ⟨Al, cl, rfl⟩ := own_form hsi.own
        have S_ := Lib.hid hsi
        have BR := Lib.hid hb
        have hzr := hb.size
        clear hsi hb
        by_cases hlt : k < x0.L.length
        · obtain ⟨R, sS, hRl, HRE, HCT⟩ : ∃ (R : List Rw) (sS : Sp), R.length ≤ 8 ∧ Hid (sS = soS (lns hs) k ∧ R = soTo (lns hs) C k C.length) ∧ Hid (Calls Try.prog 10 #[.slice (some ⟨be, oe, none⟩) hs.length c, .slice B C.length d, .int .i64 (k : Int)] wr (RetShB wr k sS R true)) :=
            ⟨_, _, by rw [soTo_len]; exact hC9, Lib.hid ⟨rfl, rfl⟩, Lib.hid (by
              have h1 := impl_SheetOf_any (some ⟨be, oe, none⟩) c hs B d C (k : Int) wr (X.out.below BR.out).grid (Mem.of_own (X.out.below BR.out).ints_) (by omega) (by omega) HR.out
              have h2 := sf_of HAC.out (k := k) (by have := HX0.out; omega)
              rwa [h2.1, h2.2.1, h2.2.2.1, h2.2.2.2] at h1)⟩
          go_wp2_with fail
          refine HCT.out.mono ?_
          rintro e w3 ⟨A3, c3, rfl, hown3, hb3⟩
          clear HCT
          have BA := below_alloc w3 (.cells #[.int .i64 (k : Int), .int .i64 sS.x, .int .i64 sS.y, .slice A3 R.length c3] 29)
          have S3 := Lib.hid ((S_.out.below hb3).below BA)
          have HW3 := Lib.hid (own_below (own_base hown3 hzr) BA)
          have HXO := Lib.hid (show ∀ q, (hvr ⟨A3, c3, R⟩).ownBlock = some q → (Value.slice Al k cl).ownBlock ≠ some q ∧ ∀ (j : Nat) (a : Shd), Ls[j]? = some a → (hvr a.h).ownBlock ≠ some q from fun q hq => by
            have h1 := (hown3.lt q hq).1
            exact ⟨fun e => (by have := (S_.out.own.lt _ e).2; omega), fun j a ha e => (by have := ((S_.out.row j a ha).1.lt _ e).2; omega)⟩)
          have BR3 := Lib.hid ((BR.out.trans (hb3.mono hzr)).trans (BA.mono (by have := hb3.size; omega)))
          have hz3 := BR3.out.size
          clear hown3 hb3 S_ BR BA
          go_wp2_with (at_builtin; (refine wpList_append_keep _ rfl (.tmp 136) (.tmp 138) 46 rfl w201.heap.size 29 i0 (.agg #[.int .i64 0, .int .i64 0, .int .i64 0, .slice none 0 0]) 4 48 Try.underlying46 hi hz0 hz1 hz2 rfl (by omega) _ _ _ rfl S3.out.own _ _ _ (congrArg (fun g => Value.slice (some ⟨g, 0, none⟩) 1 1) (by simp)) rfl rfl (by omega) (by omega) (by omega) ?_; intro v' w4 hown' hb4 hkeep hsz4; have HC4 := Lib.hid (S3.out.snoc (x := ⟨k, sS, ⟨A3, c3, R⟩⟩) HW3.out HXO.out hown' hkeep); have BR4 := Lib.hid (BR3.out.trans hb4); clear hkeep hown' hb4))
          go_roundw
          case rel => exact ⟨k + 1, Ls ++ [⟨k, sS, ⟨A3, c3, R⟩⟩], by omega, by go_num, HC4.out, Lib.hid (by rw [shAll_succ, ← HSH.out, ← HRE.out.1, ← HRE.out.2]; simp [shv]), BR4.out⟩
          case measure => simp [intOf]; omega
        · obtain rfl : k = x0.L.length := by omega
          have hq := BR.out
          have SG := Lib.hid (S_.out.grid)
          have HSL := Lib.hid (S_.out.len)
          clear S_ BR
          have zs0_ := keep1 hq zs0
          have zs1_ := keep1 hq zs1
          have zs2_ := keep1 hq zs2
          have zs3_ := keep1 hq zs3
          have K1_ := K1.out.below hq
          have X_ := X.out.below hq
          have Ms_ := Ms.out.below hq
          have BB_ := Below.next hq BB.out BB.out.size
          clear zs0 zs1 zs2 zs3 K1 X Ms BB hq
          have zs0 := zs0_
          have zs1 := zs1_
          have zs2 := zs2_
          have zs3 := zs3_
          have K1 := Lib.hid K1_
          have X := Lib.hid X_
          have Ms := Lib.hid Ms_
          have BB := Lib.hid BB_
          clear zs0_ zs1_ zs2_ zs3_ K1_ X_ Ms_ BB_
          have HALL := Lib.hid (show coOk (shv Ls) = true ∧ coGV (shv Ls) = lns hs ∧ coCV (shv Ls) = C by rw [HSH.out, HX0.out]; exact all_co HAC.out)
          have HCT := Lib.hid (show Calls Try.prog 21 #[.slice Al x0.L.length cl] wr (fun e w' => ∃ A5 c5 hs5 B5 d5, e = .returned (.tuple #[.slice A5 hs.length c5, .slice B5 C.length d5, .bool true]) ∧ lns hs5 = lns hs ∧ CI w' wr.heap.size (.slice A5 hs.length c5) hs.length hs5 (.slice B5 C.length d5) C ∧ Below wr.heap.size wr w') from by
            have h1 := impl_ChartsOf_any Al cl Ls wr SG.out (by have := HSL.out; omega) (fun k a ha => by
              have h2 := shv_at ha
              rw [HSH.out] at h2
              have h3 := (List.getElem?_eq_some_iff.1 h2).1
              rw [shAll_len] at h3
              rw [shAll_at h3] at h2
              have h4 : soTo (lns hs) C k C.length = a.h.L := (Prod.mk.inj (Prod.mk.inj (Option.some.inj h2)).2).2
              rw [← h4, soTo_len]
              omega)
            rw [HALL.out.1, HALL.out.2.1, HALL.out.2.2, HSL.out] at h1
            refine h1.mono ?_
            rintro e w' ⟨A5, c5, hs5, B5, d5, rfl, h2, h3, h4⟩
            rw [lns_len] at h3 ⊢
            exact ⟨A5, c5, hs5, B5, d5, rfl, h2, h3, h4⟩)
          go_wp2_with fail
          refine (HCT.out).mono ?_
          rintro e w301 ⟨A5, c5, hs5, B5, d5, rfl, hl5, hci5, hq⟩
          have Y_n := Lib.hid hci5
          have HL5 := Lib.hid hl5
          have HR5 := Lib.hid (show ∀ (k : Nat) (h : Hdr Sp), hs5[k]? = some h → h.L.length ≤ 1048576 from fun k h hk => by
            have h1 := lns_at hk
            rw [hl5] at h1
            obtain ⟨h0, h2, h3⟩ := lns_inv h1
            rw [← h3]
            exact (HR.out k h0 h2).1)
          clear hci5 hl5 HCT HALL HSH
          clear SG
          have zs0_ := keep1 hq zs0
          have zs1_ := keep1 hq zs1
          have zs2_ := keep1 hq zs2
          have zs3_ := keep1 hq zs3
          have K1_ := K1.out.below hq
          have X_ := X.out.below hq
          have Ms_ := Ms.out.below hq
          have BB_ := Below.next hq BB.out BB.out.size
          clear zs0 zs1 zs2 zs3 K1 X Ms BB hq
          have zs0 := zs0_
          have zs1 := zs1_
          have zs2 := zs2_
          have zs3 := zs3_
          have K1 := Lib.hid K1_
          have X := Lib.hid X_
          have Ms := Lib.hid Ms_
          have BB := Lib.hid BB_
          clear zs0_ zs1_ zs2_ zs3_ K1_ X_ Ms_ BB_
          have Y := Y_n
          clear Y_n
          go_wp2_with fail
          refine (pSameCharts_same A5 (some ⟨be, oe, none⟩) c5 c hs.length hs5 hs _ Y.out.grid X.out.grid HL5.out Y.out.len (by omega) HR5.out).mono ?_
          rintro e w302 ⟨rfl, hq⟩
          have zs0_ := keep1 hq zs0
          have zs1_ := keep1 hq zs1
          have zs2_ := keep1 hq zs2
          have zs3_ := keep1 hq zs3
          have K1_ := K1.out.below hq
          have X_ := X.out.below hq
          have Ms_ := Ms.out.below hq
          have Y_ := Y.out.below hq
          have BB_ := Below.next hq BB.out BB.out.size
          clear zs0 zs1 zs2 zs3 K1 X Ms Y BB hq
          have zs0 := zs0_
          have zs1 := zs1_
          have zs2 := zs2_
          have zs3 := zs3_
          have K1 := Lib.hid K1_
          have X := Lib.hid X_
          have Ms := Lib.hid Ms_
          have Y := Lib.hid Y_
          have BB := Lib.hid BB_
          clear zs0_ zs1_ zs2_ zs3_ K1_ X_ Ms_ Y_ BB_
          go_wp2_with fail
          refine (sameInts_same B5 B d5 d C _ (Mem.of_own Y.out.ints_) (Mem.of_own X.out.ints_) (by omega)).mono ?_
          rintro e w303 ⟨rfl, hq⟩
          have zs0_ := keep1 hq zs0
          have zs1_ := keep1 hq zs1
          have zs2_ := keep1 hq zs2
          have zs3_ := keep1 hq zs3
          have K1_ := K1.out.below hq
          have X_ := X.out.below hq
          have Ms_ := Ms.out.below hq
          have Y_ := Y.out.below hq
          have BB_ := Below.next hq BB.out BB.out.size
          clear zs0 zs1 zs2 zs3 K1 X Ms Y BB hq
          have zs0 := zs0_
          have zs1 := zs1_
          have zs2 := zs2_
          have zs3 := zs3_
          have K1 := Lib.hid K1_
          have X := Lib.hid X_
          have Ms := Lib.hid Ms_
          have Y := Lib.hid Y_
          have BB := Lib.hid BB_
          clear zs0_ zs1_ zs2_ zs3_ K1_ X_ Ms_ Y_ BB_
          clear Y
          clear HR5 HL5 HX0 HSL
          go_wp2_with fail
          go_loopw [23, 163] (fun sv iv wr => ∃ k : Nat, k ≤ C.length ∧ iv = .int .i64 k ∧ sv = .int .i64 (smTo C k) ∧ Below w303.heap.size w303 wr) (fun _ iv _ => C.length - (intOf iv).toNat)
          case atStart => exact ⟨0, by omega, rfl, rfl, Below.refl _ _⟩
          case round =>
            obtain ⟨k, hk, rfl, rfl, hq⟩ := hrel
            have HB0_ := Lib.hid (show Beh w303.heap.size w303 wr from ⟨hq.size, hq⟩)
            have zs0_ := keep1 hq zs0
            have zs1_ := keep1 hq zs1
            have zs2_ := keep1 hq zs2
            have zs3_ := keep1 hq zs3
            have K1_ := K1.out.below hq
            have X_ := X.out.below hq
            have Ms_ := Ms.out.below hq
            have BB_ := Below.next hq BB.out BB.out.size
            clear zs0 zs1 zs2 zs3 K1 X Ms BB
            have zs0 := zs0_
            have zs1 := zs1_
            have zs2 := zs2_
            have zs3 := zs3_
            have K1 := Lib.hid K1_
            have X := Lib.hid X_
            have Ms := Lib.hid Ms_
            have BB := Lib.hid BB_
            clear zs0_ zs1_ zs2_ zs3_ K1_ X_ Ms_ BB_
            clear hq
            by_cases hlt2 : k < C.length
            · obtain ⟨n, hn_⟩ := some_of_lt hlt2
              obtain ⟨bi, oi, eI, ci⟩ := (Mem.of_own X.out.ints_).int hn_
              have HN := Lib.hid (smTo_succ hn_)
              have hb1 := smTo_bound HCA.out k
              have hb2 := HCA.out n (List.mem_of_getElem? hn_)
              have hsw : IntKind.i64.wrap (smTo C k + n) = smTo C (k + 1) := by rw [HN.out]; exact IntWalk.i64_in _ (by omega)
              have hb3 := smTo_bound HCA.out (k + 1)
              have F1 := Lib.hid (FSA.out k hlt2)
              obtain rfl := eI
              clear hn_
              generalize hv : smTo C (k + 1) = v at *
              have HV_ := Lib.hid hv
              clear hv
              obtain ⟨t, ht⟩ : ∃ t, gat (lns hs) (k + 1) j = t := ⟨_, rfl⟩
              have HT_ := Lib.hid ht
              clear ht
              go_wp2_with fail
              refine (impl_SpotAfter_any (j : Int) S _ _ V v _ Ms.out (by omega) (by unfold okInt; omega)).mono ?_
              rintro e w501 ⟨he, hq⟩
              rw [F1.out.1, F1.out.2, HT_.out] at he
              subst he
              have zs0_ := keep1 hq zs0
              have zs1_ := keep1 hq zs1
              have zs2_ := keep1 hq zs2
              have zs3_ := keep1 hq zs3
              have K1_ := K1.out.below hq
              have X_ := X.out.below hq
              have Ms_ := Ms.out.below hq
              have HB0__ := HB0_.out.below hq
              have BB_ := Below.next hq BB.out BB.out.size
              clear zs0 zs1 zs2 zs3 K1 X Ms HB0_ BB hq
              have zs0 := zs0_
              have zs1 := zs1_
              have zs2 := zs2_
              have zs3 := zs3_
              have K1 := Lib.hid K1_
              have X := Lib.hid X_
              have Ms := Lib.hid Ms_
              have HB0_ := Lib.hid HB0__
              have BB := Lib.hid BB_
              clear zs0_ zs1_ zs2_ zs3_ K1_ X_ Ms_ HB0__ BB_
              clear ci
              have hq : Below w501.heap.size w501 (w501.alloc (.cells #[.int .i64 t.x, .int .i64 t.y] 26)) := (Below.refl _ _).alloc (Nat.le_refl _) _
              have zs0_ := keep1 hq zs0
              have zs1_ := keep1 hq zs1
              have zs2_ := keep1 hq zs2
              have zs3_ := keep1 hq zs3
              have K1_ := K1.out.below hq
              have X_ := X.out.below hq
              have Ms_ := Ms.out.below hq
              have HB0__ := HB0_.out.below hq
              have BB_ := Below.next hq BB.out BB.out.size
              clear zs0 zs1 zs2 zs3 K1 X Ms HB0_ BB hq
              have zs0 := zs0_
              have zs1 := zs1_
              have zs2 := zs2_
              have zs3 := zs3_
              have K1 := Lib.hid K1_
              have X := Lib.hid X_
              have Ms := Lib.hid Ms_
              have HB0_ := Lib.hid HB0__
              have BB := Lib.hid BB_
              clear zs0_ zs1_ zs2_ zs3_ K1_ X_ Ms_ HB0__ BB_
              have d0 : (w501.alloc (.cells #[.int .i64 t.x, .int .i64 t.y] 26)).cell? ⟨w501.heap.size, 0, none⟩ = some (.int .i64 t.x) := by simp [go_sem]
              have d1 : (w501.alloc (.cells #[.int .i64 t.x, .int .i64 t.y] 26)).cell? ⟨w501.heap.size, 1, none⟩ = some (.int .i64 t.y) := by simp [go_sem]
              go_upto_region 31 with (fail)
              generalize (w501.alloc (.cells #[.int .i64 t.x, .int .i64 t.y] 26)) = wD at *
              obtain ⟨xk, hxk⟩ := some_of_lt (L := hs) (k := k + 1) (by have := HCH.out; omega)
              obtain ⟨bk, ok, eAk, gk⟩ := hdr_cell X.out.grid.mem hxk
              have hjk : j < xk.L.length := by rw [(ac_row HAC.out (lns_at hxk)).2.1]; exact HJ.out
              obtain ⟨tk, htk⟩ := some_of_lt hjk
              obtain ⟨dk, pk, eBk, sk, rk⟩ := (X.out.grid.row _ xk hxk).spot htk
              rw [eBk] at gk
              have GAk := Lib.hid (gat_at (lns_at hxk) htk)
              have hlk := (HR.out _ xk hxk).1
              clear hxk htk eBk
              have htt : tk = t := GAk.out.symm.trans HT_.out
              subst htt
              obtain ⟨e1_, e2_, _⟩ := Addr.mk.inj (Option.some.inj eAk)
              subst e1_ e2_
              have j5 : (k : Int) + 1 < (hs.length : Int) := by have := HCH.out; omega
              have j6 : (0 : Int) ≤ (k : Int) + 1 := by omega
              have j7 : ((k : Int) + 1).toNat = k + 1 := by omega
              have j8 : (j : Int) < (xk.L.length : Int) := by omega
              clear eAk
              clear zs0 zs1 zs2 zs3
              have q0_ := cell_regrown (w := wD) d0
              have q1_ := cell_regrown (w := wD) d1
              have q2_ := cell_regrown (w := wD) gk
              have q3_ := cell_regrown (w := wD) sk
              have q4_ := cell_regrown (w := wD) rk
              go_wp2
              refine wp_region_quiet_below (by kernel_rfl) (by kernel_rfl) ?_
              repeat (first | go_big_quiet_step (fail) | quiet_step (fail))
              refine wpQuiet_nil ?_
              intro _ hw'
              obtain ⟨⟨dq, osq⟩, hw''⟩ := hw'
              subst hw''
              have hq := below_regrown wD dq osq
              clear q0_ q1_ q2_ q3_ q4_
              generalize grow (redrawn wD dq) osq = w502 at *
              have d0_ := keep1 hq d0
              have d1_ := keep1 hq d1
              have K1_ := K1.out.below hq
              have X_ := X.out.below hq
              have Ms_ := Ms.out.below hq
              have HB0__ := HB0_.out.below hq
              have BB_ := Below.next hq BB.out BB.out.size
              clear d0 d1 K1 X Ms HB0_ BB hq
              have d0 := d0_
              have d1 := d1_
              have K1 := Lib.hid K1_
              have X := Lib.hid X_
              have Ms := Lib.hid Ms_
              have HB0_ := Lib.hid HB0__
              have BB := Lib.hid BB_
              clear d0_ d1_ K1_ X_ Ms_ HB0__ BB_
              clear gk sk rk
              go_wp2_with fail
              go_roundw
              case rel => exact ⟨k + 1, by omega, by go_num, by rw [HV_.out], HB0_.out.2⟩
              case measure => simp [intOf]; omega
            · obtain rfl : k = C.length := by omega
              go_wp2_with fail
              go_meet
              exact ⟨BB.out, K1⟩
  case rest => as_aux_lemma =>
    obtain ⟨hbc, K1⟩ := hcut
    have BB := Lib.hid hbc
    clear hbc X Ms zs0 zs1 zs2 zs3 HR HP HS HV HO
    go_wp2_with fail
    refine (drawChartsOf_any _ _ _ _ K1.out).mono ?_
    rintro e w601 ⟨A6, c6, Ls, rfl, hg6, hl6, hr6, hq⟩
    have SG_n := Lib.hid hg6
    have HR6 := Lib.hid hr6
    clear hg6 hr6
    have K1_ := K1.out.below hq
    have BB_ := Below.next hq BB.out BB.out.size
    clear K1 BB hq
    have K1 := Lib.hid K1_
    have BB := Lib.hid BB_
    clear K1_ BB_
    have SG := SG_n
    clear SG_n
    obtain ⟨hgb, hcb, hrb⟩ := coGV_bd (shv Ls)
    obtain ⟨GG, h_GG⟩ : ∃ v, coGV (shv Ls) = v := ⟨_, rfl⟩
    have HGG := Lib.hid h_GG
    clear h_GG
    obtain ⟨CC, h_CC⟩ : ∃ v, coCV (shv Ls) = v := ⟨_, rfl⟩
    have HCC := Lib.hid h_CC
    clear h_CC
    obtain ⟨ok1, h_ok1⟩ : ∃ v, coOk (shv Ls) = v := ⟨_, rfl⟩
    have HOO := Lib.hid h_ok1
    clear h_ok1
    rw [HGG.out] at hgb hrb
    rw [HCC.out] at hcb
    have HRB := Lib.hid hrb
    clear hrb
    go_wp2_with fail
    refine (impl_ChartsOf_any A6 c6 Ls _ SG.out (by omega) (fun k a h => by have := HR6.out k a h; omega)).mono ?_
    rintro e w602 ⟨A7, c7, hs7, B7, d7, he, hl7_, hci7, hq⟩
    rw [HGG.out, HCC.out, HOO.out] at he
    rw [HGG.out, HCC.out] at hci7
    rw [HGG.out] at hl7_
    subst he
    have Y7_n := Lib.hid hci7
    have HL7 := Lib.hid hl7_
    clear hci7 hl7_
    have K1_ := K1.out.below hq
    have SG_ := SG.out.below hq
    have BB_ := Below.next hq BB.out BB.out.size
    clear K1 SG BB hq
    have K1 := Lib.hid K1_
    have SG := Lib.hid SG_
    have BB := Lib.hid BB_
    clear K1_ SG_ BB_
    have Y7 := Y7_n
    clear Y7_n
    go_wp2_with fail
    refine (spec_ChartsOf_any A6 c6 Ls _ SG.out (by omega) (fun k a h => by have := HR6.out k a h; omega)).mono ?_
    rintro e w603 ⟨A8, c8, hs8, B8, d8, he, hl8_, hci8, hq⟩
    rw [HGG.out, HCC.out, HOO.out] at he
    rw [HGG.out, HCC.out] at hci8
    rw [HGG.out] at hl8_
    subst he
    have Y8_n := Lib.hid hci8
    have HL8 := Lib.hid hl8_
    clear hci8 hl8_
    have K1_ := K1.out.below hq
    have SG_ := SG.out.below hq
    have Y7_ := Y7.out.below hq
    have BB_ := Below.next hq BB.out BB.out.size
    clear K1 SG Y7 BB hq
    have K1 := Lib.hid K1_
    have SG := Lib.hid SG_
    have Y7 := Lib.hid Y7_
    have BB := Lib.hid BB_
    clear K1_ SG_ Y7_ BB_
    have Y8 := Y8_n
    clear Y8_n
    clear SG
    go_wp2_with fail
    refine (drawSpotAfter_any _ _ _ _ K1.out).mono ?_
    rintro e w604 ⟨p9, s9, A9, c9, L9, n9, rfl, hown, hl9, _, n90, n91, hq⟩
    have M9_n := Lib.hid (Mem.of_own hown)
    clear hown
    have K1_ := K1.out.below hq
    have Y7_ := Y7.out.below hq
    have Y8_ := Y8.out.below hq
    have BB_ := Below.next hq BB.out BB.out.size
    clear K1 Y7 Y8 BB hq
    have K1 := Lib.hid K1_
    have Y7 := Lib.hid Y7_
    have Y8 := Lib.hid Y8_
    have BB := Lib.hid BB_
    clear K1_ Y7_ Y8_ BB_
    have M9 := M9_n
    clear M9_n
    have hq : Below w604.heap.size w604 (w604.alloc (.cells #[.int .i64 p9, .int .i64 s9.x, .int .i64 s9.y, .slice A9 L9.length c9] 29)) := (Below.refl _ _).alloc (Nat.le_refl _) _
    have K1_ := K1.out.below hq
    have Y7_ := Y7.out.below hq
    have Y8_ := Y8.out.below hq
    have M9_ := M9.out.below hq
    have BB_ := Below.next hq BB.out BB.out.size
    clear K1 Y7 Y8 M9 BB hq
    have K1 := Lib.hid K1_
    have Y7 := Lib.hid Y7_
    have Y8 := Lib.hid Y8_
    have M9 := Lib.hid M9_
    have BB := Lib.hid BB_
    clear K1_ Y7_ Y8_ M9_ BB_
    have zu0 : (w604.alloc (.cells #[.int .i64 p9, .int .i64 s9.x, .int .i64 s9.y, .slice A9 L9.length c9] 29)).cell? ⟨w604.heap.size, 0, none⟩ = some (.int .i64 p9) := by simp [go_sem]
    have zu1 : (w604.alloc (.cells #[.int .i64 p9, .int .i64 s9.x, .int .i64 s9.y, .slice A9 L9.length c9] 29)).cell? ⟨w604.heap.size, 1, none⟩ = some (.int .i64 s9.x) := by simp [go_sem]
    have zu2 : (w604.alloc (.cells #[.int .i64 p9, .int .i64 s9.x, .int .i64 s9.y, .slice A9 L9.length c9] 29)).cell? ⟨w604.heap.size, 2, none⟩ = some (.int .i64 s9.y) := by simp [go_sem]
    have zu3 : (w604.alloc (.cells #[.int .i64 p9, .int .i64 s9.x, .int .i64 s9.y, .slice A9 L9.length c9] 29)).cell? ⟨w604.heap.size, 3, none⟩ = some (.slice A9 L9.length c9) := by simp [go_sem]
    obtain ⟨sv, h_sv⟩ : ∃ v, saV p9 s9 L9 n9 = v := ⟨_, rfl⟩
    have HSV := Lib.hid h_sv
    clear h_sv
    obtain ⟨so, h_so⟩ : ∃ v, saOk p9 s9 L9 n9 = v := ⟨_, rfl⟩
    have HSO := Lib.hid h_so
    clear h_so
    go_wp2_with fail
    refine (impl_SpotAfter_any p9 s9 _ _ L9 n9 _ M9.out (by omega) (by unfold okInt; omega)).mono ?_
    rintro e w605 ⟨he, hq⟩
    rw [HSV.out, HSO.out] at he
    subst he
    have zu0_ := keep1 hq zu0
    have zu1_ := keep1 hq zu1
    have zu2_ := keep1 hq zu2
    have zu3_ := keep1 hq zu3
    have K1_ := K1.out.below hq
    have Y7_ := Y7.out.below hq
    have Y8_ := Y8.out.below hq
    have M9_ := M9.out.below hq
    have BB_ := Below.next hq BB.out BB.out.size
    clear zu0 zu1 zu2 zu3 K1 Y7 Y8 M9 BB hq
    have zu0 := zu0_
    have zu1 := zu1_
    have zu2 := zu2_
    have zu3 := zu3_
    have K1 := Lib.hid K1_
    have Y7 := Lib.hid Y7_
    have Y8 := Lib.hid Y8_
    have M9 := Lib.hid M9_
    have BB := Lib.hid BB_
    clear zu0_ zu1_ zu2_ zu3_ K1_ Y7_ Y8_ M9_ BB_
    have hq : Below w605.heap.size w605 (w605.alloc (.cells #[.int .i64 sv.x, .int .i64 sv.y] 26)) := (Below.refl _ _).alloc (Nat.le_refl _) _
    have zu0_ := keep1 hq zu0
    have zu1_ := keep1 hq zu1
    have zu2_ := keep1 hq zu2
    have zu3_ := keep1 hq zu3
    have K1_ := K1.out.below hq
    have Y7_ := Y7.out.below hq
    have Y8_ := Y8.out.below hq
    have M9_ := M9.out.below hq
    have BB_ := Below.next hq BB.out BB.out.size
    clear zu0 zu1 zu2 zu3 K1 Y7 Y8 M9 BB hq
    have zu0 := zu0_
    have zu1 := zu1_
    have zu2 := zu2_
    have zu3 := zu3_
    have K1 := Lib.hid K1_
    have Y7 := Lib.hid Y7_
    have Y8 := Lib.hid Y8_
    have M9 := Lib.hid M9_
    have BB := Lib.hid BB_
    clear zu0_ zu1_ zu2_ zu3_ K1_ Y7_ Y8_ M9_ BB_
    have e0 : (w605.alloc (.cells #[.int .i64 sv.x, .int .i64 sv.y] 26)).cell? ⟨w605.heap.size, 0, none⟩ = some (.int .i64 sv.x) := by simp [go_sem]
    have e1 : (w605.alloc (.cells #[.int .i64 sv.x, .int .i64 sv.y] 26)).cell? ⟨w605.heap.size, 1, none⟩ = some (.int .i64 sv.y) := by simp [go_sem]
    go_wp2_with fail
    refine (spec_SpotAfter_any p9 s9 _ _ L9 n9 _ M9.out (by omega) (by unfold okInt; omega)).mono ?_
    rintro e w606 ⟨he, hq⟩
    rw [HSV.out, HSO.out] at he
    subst he
    have zu0_ := keep1 hq zu0
    have zu1_ := keep1 hq zu1
    have zu2_ := keep1 hq zu2
    have zu3_ := keep1 hq zu3
    have e0_ := keep1 hq e0
    have e1_ := keep1 hq e1
    have K1_ := K1.out.below hq
    have Y7_ := Y7.out.below hq
    have Y8_ := Y8.out.below hq
    have M9_ := M9.out.below hq
    have BB_ := Below.next hq BB.out BB.out.size
    clear zu0 zu1 zu2 zu3 e0 e1 K1 Y7 Y8 M9 BB hq
    have zu0 := zu0_
    have zu1 := zu1_
    have zu2 := zu2_
    have zu3 := zu3_
    have e0 := e0_
    have e1 := e1_
    have K1 := Lib.hid K1_
    have Y7 := Lib.hid Y7_
    have Y8 := Lib.hid Y8_
    have M9 := Lib.hid M9_
    have BB := Lib.hid BB_
    clear zu0_ zu1_ zu2_ zu3_ e0_ e1_ K1_ Y7_ Y8_ M9_ BB_
    have hq : Below w606.heap.size w606 (w606.alloc (.cells #[.int .i64 sv.x, .int .i64 sv.y] 26)) := (Below.refl _ _).alloc (Nat.le_refl _) _
    have zu0_ := keep1 hq zu0
    have zu1_ := keep1 hq zu1
    have zu2_ := keep1 hq zu2
    have zu3_ := keep1 hq zu3
    have e0_ := keep1 hq e0
    have e1_ := keep1 hq e1
    have K1_ := K1.out.below hq
    have Y7_ := Y7.out.below hq
    have Y8_ := Y8.out.below hq
    have M9_ := M9.out.below hq
    have BB_ := Below.next hq BB.out BB.out.size
    clear zu0 zu1 zu2 zu3 e0 e1 K1 Y7 Y8 M9 BB hq
    have zu0 := zu0_
    have zu1 := zu1_
    have zu2 := zu2_
    have zu3 := zu3_
    have e0 := e0_
    have e1 := e1_
    have K1 := Lib.hid K1_
    have Y7 := Lib.hid Y7_
    have Y8 := Lib.hid Y8_
    have M9 := Lib.hid M9_
    have BB := Lib.hid BB_
    clear zu0_ zu1_ zu2_ zu3_ e0_ e1_ K1_ Y7_ Y8_ M9_ BB_
    have f0 : (w606.alloc (.cells #[.int .i64 sv.x, .int .i64 sv.y] 26)).cell? ⟨w606.heap.size, 0, none⟩ = some (.int .i64 sv.x) := by simp [go_sem]
    have f1 : (w606.alloc (.cells #[.int .i64 sv.x, .int .i64 sv.y] 26)).cell? ⟨w606.heap.size, 1, none⟩ = some (.int .i64 sv.y) := by simp [go_sem]
    clear M9 zu0 zu1 zu2 zu3
    go_wp2_with fail
    refine (drawLeadsTo_any _ _ _ _ K1.out).mono ?_
    rintro e w607 ⟨pa, sa, Aa, ca, La, rfl, hown, hla, _, hq⟩
    have Ma_n := Lib.hid (Mem.of_own hown)
    clear hown
    have e0_ := keep1 hq e0
    have e1_ := keep1 hq e1
    have f0_ := keep1 hq f0
    have f1_ := keep1 hq f1
    have K1_ := K1.out.below hq
    have Y7_ := Y7.out.below hq
    have Y8_ := Y8.out.below hq
    have BB_ := Below.next hq BB.out BB.out.size
    clear e0 e1 f0 f1 K1 Y7 Y8 BB hq
    have e0 := e0_
    have e1 := e1_
    have f0 := f0_
    have f1 := f1_
    have K1 := Lib.hid K1_
    have Y7 := Lib.hid Y7_
    have Y8 := Lib.hid Y8_
    have BB := Lib.hid BB_
    clear e0_ e1_ f0_ f1_ K1_ Y7_ Y8_ BB_
    have Ma := Ma_n
    clear Ma_n
    clear K1
    have hq : Below w607.heap.size w607 (w607.alloc (.cells #[.int .i64 pa, .int .i64 sa.x, .int .i64 sa.y, .slice Aa La.length ca] 29)) := (Below.refl _ _).alloc (Nat.le_refl _) _
    have e0_ := keep1 hq e0
    have e1_ := keep1 hq e1
    have f0_ := keep1 hq f0
    have f1_ := keep1 hq f1
    have Y7_ := Y7.out.below hq
    have Y8_ := Y8.out.below hq
    have Ma_ := Ma.out.below hq
    have BB_ := Below.next hq BB.out BB.out.size
    clear e0 e1 f0 f1 Y7 Y8 Ma BB hq
    have e0 := e0_
    have e1 := e1_
    have f0 := f0_
    have f1 := f1_
    have Y7 := Lib.hid Y7_
    have Y8 := Lib.hid Y8_
    have Ma := Lib.hid Ma_
    have BB := Lib.hid BB_
    clear e0_ e1_ f0_ f1_ Y7_ Y8_ Ma_ BB_
    have zv0 : (w607.alloc (.cells #[.int .i64 pa, .int .i64 sa.x, .int .i64 sa.y, .slice Aa La.length ca] 29)).cell? ⟨w607.heap.size, 0, none⟩ = some (.int .i64 pa) := by simp [go_sem]
    have zv1 : (w607.alloc (.cells #[.int .i64 pa, .int .i64 sa.x, .int .i64 sa.y, .slice Aa La.length ca] 29)).cell? ⟨w607.heap.size, 1, none⟩ = some (.int .i64 sa.x) := by simp [go_sem]
    have zv2 : (w607.alloc (.cells #[.int .i64 pa, .int .i64 sa.x, .int .i64 sa.y, .slice Aa La.length ca] 29)).cell? ⟨w607.heap.size, 2, none⟩ = some (.int .i64 sa.y) := by simp [go_sem]
    have zv3 : (w607.alloc (.cells #[.int .i64 pa, .int .i64 sa.x, .int .i64 sa.y, .slice Aa La.length ca] 29)).cell? ⟨w607.heap.size, 3, none⟩ = some (.slice Aa La.length ca) := by simp [go_sem]
    obtain ⟨lv, h_lv⟩ : ∃ v, ldV pa sa La = v := ⟨_, rfl⟩
    have HLV := Lib.hid h_lv
    clear h_lv
    obtain ⟨lo, h_lo⟩ : ∃ v, shOk pa sa La = v := ⟨_, rfl⟩
    have HLO := Lib.hid h_lo
    clear h_lo
    go_wp2_with fail
    refine (impl_LeadsTo_any pa sa _ _ La _ Ma.out (by omega)).mono ?_
    rintro e w608 ⟨he, hq⟩
    rw [HLV.out, HLO.out] at he
    subst he
    have e0_ := keep1 hq e0
    have e1_ := keep1 hq e1
    have f0_ := keep1 hq f0
    have f1_ := keep1 hq f1
    have zv0_ := keep1 hq zv0
    have zv1_ := keep1 hq zv1
    have zv2_ := keep1 hq zv2
    have zv3_ := keep1 hq zv3
    have Y7_ := Y7.out.below hq
    have Y8_ := Y8.out.below hq
    have Ma_ := Ma.out.below hq
    have BB_ := Below.next hq BB.out BB.out.size
    clear e0 e1 f0 f1 zv0 zv1 zv2 zv3 Y7 Y8 Ma BB hq
    have e0 := e0_
    have e1 := e1_
    have f0 := f0_
    have f1 := f1_
    have zv0 := zv0_
    have zv1 := zv1_
    have zv2 := zv2_
    have zv3 := zv3_
    have Y7 := Lib.hid Y7_
    have Y8 := Lib.hid Y8_
    have Ma := Lib.hid Ma_
    have BB := Lib.hid BB_
    clear e0_ e1_ f0_ f1_ zv0_ zv1_ zv2_ zv3_ Y7_ Y8_ Ma_ BB_
    have hq : Below w608.heap.size w608 (w608.alloc (.cells #[.int .i64 lv.x, .int .i64 lv.y] 26)) := (Below.refl _ _).alloc (Nat.le_refl _) _
    have e0_ := keep1 hq e0
    have e1_ := keep1 hq e1
    have f0_ := keep1 hq f0
    have f1_ := keep1 hq f1
    have zv0_ := keep1 hq zv0
    have zv1_ := keep1 hq zv1
    have zv2_ := keep1 hq zv2
    have zv3_ := keep1 hq zv3
    have Y7_ := Y7.out.below hq
    have Y8_ := Y8.out.below hq
    have Ma_ := Ma.out.below hq
    have BB_ := Below.next hq BB.out BB.out.size
    clear e0 e1 f0 f1 zv0 zv1 zv2 zv3 Y7 Y8 Ma BB hq
    have e0 := e0_
    have e1 := e1_
    have f0 := f0_
    have f1 := f1_
    have zv0 := zv0_
    have zv1 := zv1_
    have zv2 := zv2_
    have zv3 := zv3_
    have Y7 := Lib.hid Y7_
    have Y8 := Lib.hid Y8_
    have Ma := Lib.hid Ma_
    have BB := Lib.hid BB_
    clear e0_ e1_ f0_ f1_ zv0_ zv1_ zv2_ zv3_ Y7_ Y8_ Ma_ BB_
    have g0 : (w608.alloc (.cells #[.int .i64 lv.x, .int .i64 lv.y] 26)).cell? ⟨w608.heap.size, 0, none⟩ = some (.int .i64 lv.x) := by simp [go_sem]
    have g1 : (w608.alloc (.cells #[.int .i64 lv.x, .int .i64 lv.y] 26)).cell? ⟨w608.heap.size, 1, none⟩ = some (.int .i64 lv.y) := by simp [go_sem]
    go_wp2_with fail
    refine (spec_LeadsTo_any pa sa _ _ La _ Ma.out (by omega)).mono ?_
    rintro e w609 ⟨he, hq⟩
    rw [HLV.out, HLO.out] at he
    subst he
    have e0_ := keep1 hq e0
    have e1_ := keep1 hq e1
    have f0_ := keep1 hq f0
    have f1_ := keep1 hq f1
    have zv0_ := keep1 hq zv0
    have zv1_ := keep1 hq zv1
    have zv2_ := keep1 hq zv2
    have zv3_ := keep1 hq zv3
    have g0_ := keep1 hq g0
    have g1_ := keep1 hq g1
    have Y7_ := Y7.out.below hq
    have Y8_ := Y8.out.below hq
    have Ma_ := Ma.out.below hq
    have BB_ := Below.next hq BB.out BB.out.size
    clear e0 e1 f0 f1 zv0 zv1 zv2 zv3 g0 g1 Y7 Y8 Ma BB hq
    have e0 := e0_
    have e1 := e1_
    have f0 := f0_
    have f1 := f1_
    have zv0 := zv0_
    have zv1 := zv1_
    have zv2 := zv2_
    have zv3 := zv3_
    have g0 := g0_
    have g1 := g1_
    have Y7 := Lib.hid Y7_
    have Y8 := Lib.hid Y8_
    have Ma := Lib.hid Ma_
    have BB := Lib.hid BB_
    clear e0_ e1_ f0_ f1_ zv0_ zv1_ zv2_ zv3_ g0_ g1_ Y7_ Y8_ Ma_ BB_
    have hq : Below w609.heap.size w609 (w609.alloc (.cells #[.int .i64 lv.x, .int .i64 lv.y] 26)) := (Below.refl _ _).alloc (Nat.le_refl _) _
    have e0_ := keep1 hq e0
    have e1_ := keep1 hq e1
    have f0_ := keep1 hq f0
    have f1_ := keep1 hq f1
    have zv0_ := keep1 hq zv0
    have zv1_ := keep1 hq zv1
    have zv2_ := keep1 hq zv2
    have zv3_ := keep1 hq zv3
    have g0_ := keep1 hq g0
    have g1_ := keep1 hq g1
    have Y7_ := Y7.out.below hq
    have Y8_ := Y8.out.below hq
    have Ma_ := Ma.out.below hq
    have BB_ := Below.next hq BB.out BB.out.size
    clear e0 e1 f0 f1 zv0 zv1 zv2 zv3 g0 g1 Y7 Y8 Ma BB hq
    have e0 := e0_
    have e1 := e1_
    have f0 := f0_
    have f1 := f1_
    have zv0 := zv0_
    have zv1 := zv1_
    have zv2 := zv2_
    have zv3 := zv3_
    have g0 := g0_
    have g1 := g1_
    have Y7 := Lib.hid Y7_
    have Y8 := Lib.hid Y8_
    have Ma := Lib.hid Ma_
    have BB := Lib.hid BB_
    clear e0_ e1_ f0_ f1_ zv0_ zv1_ zv2_ zv3_ g0_ g1_ Y7_ Y8_ Ma_ BB_
    have h0 : (w609.alloc (.cells #[.int .i64 lv.x, .int .i64 lv.y] 26)).cell? ⟨w609.heap.size, 0, none⟩ = some (.int .i64 lv.x) := by simp [go_sem]
    have h1 : (w609.alloc (.cells #[.int .i64 lv.x, .int .i64 lv.y] 26)).cell? ⟨w609.heap.size, 1, none⟩ = some (.int .i64 lv.y) := by simp [go_sem]
    clear Ma zv0 zv1 zv2 zv3
    have HE78 := Lib.hid (HL7.out.trans HL8.out.symm)
    have HRR := Lib.hid (show ∀ (k : Nat) (h : Hdr Sp), hs7[k]? = some h → h.L.length ≤ 1048576 from fun k h hk => by
      have h1 := lns_at hk
      rw [HL7.out] at h1
      have := HRB.out _ (List.mem_of_getElem? h1)
      omega)
    go_wp2_with fail
    refine (pSameCharts_same A7 A8 c7 c8 GG.length hs7 hs8 _ Y7.out.grid Y8.out.grid HE78.out Y7.out.len (by omega) HRR.out).mono ?_
    rintro e w610 ⟨rfl, hq⟩
    have e0_ := keep1 hq e0
    have e1_ := keep1 hq e1
    have f0_ := keep1 hq f0
    have f1_ := keep1 hq f1
    have g0_ := keep1 hq g0
    have g1_ := keep1 hq g1
    have h0_ := keep1 hq h0
    have h1_ := keep1 hq h1
    have Y7_ := Y7.out.below hq
    have Y8_ := Y8.out.below hq
    have BB_ := Below.next hq BB.out BB.out.size
    clear e0 e1 f0 f1 g0 g1 h0 h1 Y7 Y8 BB hq
    have e0 := e0_
    have e1 := e1_
    have f0 := f0_
    have f1 := f1_
    have g0 := g0_
    have g1 := g1_
    have h0 := h0_
    have h1 := h1_
    have Y7 := Lib.hid Y7_
    have Y8 := Lib.hid Y8_
    have BB := Lib.hid BB_
    clear e0_ e1_ f0_ f1_ g0_ g1_ h0_ h1_ Y7_ Y8_ BB_
    go_wp2_with fail
    refine (sameInts_same B7 B8 d7 d8 CC _ (Mem.of_own Y7.out.ints_) (Mem.of_own Y8.out.ints_) (by omega)).mono ?_
    rintro e w611 ⟨rfl, hq⟩
    have e0_ := keep1 hq e0
    have e1_ := keep1 hq e1
    have f0_ := keep1 hq f0
    have f1_ := keep1 hq f1
    have g0_ := keep1 hq g0
    have g1_ := keep1 hq g1
    have h0_ := keep1 hq h0
    have h1_ := keep1 hq h1
    have Y7_ := Y7.out.below hq
    have Y8_ := Y8.out.below hq
    have BB_ := Below.next hq BB.out BB.out.size
    clear e0 e1 f0 f1 g0 g1 h0 h1 Y7 Y8 BB hq
    have e0 := e0_
    have e1 := e1_
    have f0 := f0_
    have f1 := f1_
    have g0 := g0_
    have g1 := g1_
    have h0 := h0_
    have h1 := h1_
    have Y7 := Lib.hid Y7_
    have Y8 := Lib.hid Y8_
    have BB := Lib.hid BB_
    clear e0_ e1_ f0_ f1_ g0_ g1_ h0_ h1_ Y7_ Y8_ BB_
    go_wp2_with fail
    go_ret
    exact ⟨rfl, BB.out⟩
end Go.Proofs.Ytbgbcajcajaocaa
