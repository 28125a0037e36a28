/-
  The walk of the law of ChartsOf.
-/
import Derived.Test.YtbgbcajcajaocaaRo2
import Derived.Test.YtbgbcajcajaocaaCoi
namespace Go.Proofs.Ytbgbcajcajaocaa
open Go.RowKit Go.Sort

theorem coG_bds (S : List Sh) : (coGV S).length ≤ 9 ∧ (coCV S).length ≤ 8 ∧ tot (coGV S) ≤ 108 := by
  unfold coGV coCV
  cases h : coOk S
  · simp [tot, totTo]
  · have hal : alOk S = true := by rw [coOk, Bool.and_eq_true] at h; exact h.1
    have hR := al_rows hal
    have hn := (alOk_iff.1 hal).1
    simp only [if_true]
    refine ⟨by rw [coG_len]; omega, by rw [coC_len]; omega, ?_⟩
    have key : ∀ k, k ≤ (coG S).length → totTo (coG S) k ≤ k * 12 := fun k => by
      induction k with
      | zero => intro _; simp [totTo]
      | succ k ih =>
        intro hk
        obtain ⟨L, hL⟩ := some_of_lt (L := coG S) (k := k) (by omega)
        have h1 := coG_rows hL
        rw [totTo_succ hL]
        have := ih (by omega)
        omega
    have := key _ (Nat.le_refl _)
    unfold tot
    rw [coG_len] at this ⊢
    omega
set_option maxRecDepth 100000 in
set_option maxHeartbeats 12800000 in
theorem FnExactChartsOf_walk (A0 : Option Addr) (c0 : Nat) (L0 : List Shd) (w : World) (m0 : Mem w A0 (shs L0)) (k0 : ∀ a ∈ L0, okInt a.p ∧ okSp a.s ∧ okHdr w (fun s : Rw => [Value.int .i64 s.c, Value.int .i64 s.t.x, Value.int .i64 s.t.y]) okRw a.h) (l0 : L0.length ≤ c0) (n0 : c0 ≤ maxLen) : Calls Try.prog 4 #[.slice A0 L0.length c0] w fun e w' => e = .returned (.bool true) ∧ Below w.heap.size w w' := by
  have hrow : ∀ (k : Nat) (a : Shd), L0[k]? = some a → a.h.L.length ≤ 9223372036854775807 := fun k a hh => (by
    have := (k0 a (List.mem_of_getElem? hh)).2.2
    have h1 := this.2.2.1
    have h2 := this.2.2.2
    unfold maxLen at h2
    omega)
  have AR := Lib.hid (AS.mk_ (w := w) (A := A0) (L := L0) ⟨m0, fun k a hh => (k0 a (List.mem_of_getElem? hh)).2.2.1⟩)
  have BB := Lib.hid (show BB_ w w from ⟨Below.refl _ _⟩)
  unfold maxLen at n0
  clear m0 k0
  have HROW := Lib.hid hrow
  clear hrow
  by_cases t0 : (L0.length : Int) + tot (shr L0) ≤ 1048576
  case neg =>
    have HV := Lib.hid (show szV2 L0.length (shr L0) 1048576 = -1 from if_neg t0)
    go_enter Try.func4, Try.ntmps4
    go_wp2_with fail
    refine (szSheetS_any A0 c0 L0 _ _ AR.out.grid.mem (by omega) HROW.out (by omega) (by omega)).mono ?_
    rintro e w' ⟨he, hq⟩
    rw [HV.out] at he
    subst he
    go_wp2_with fail
    go_ret
    exact ⟨rfl, hq⟩
  have hl0 : L0.length ≤ 1048576 := by omega
  have ht0 : tot (shr L0) ≤ 1048576 := by omega
  have HR1 := Lib.hid (show ∀ (k : Nat) (a : Shd), L0[k]? = some a → a.h.L.length ≤ 1048576 from fun k a hh => by have := tot_row (shr_at hh); omega)
  obtain ⟨tv, htv⟩ : ∃ tv, tot (shr L0) = tv := ⟨_, rfl⟩
  rw [htv] at ht0 t0
  have HTV := Lib.hid htv
  have HV2 := Lib.hid (show szV2 L0.length (shr L0) 1048576 = 1048576 - L0.length - tv by rw [← htv]; exact if_pos (by rw [htv]; exact t0))
  have hbd := coG_bds (shv L0)
  obtain ⟨G, hG⟩ : ∃ v, coGV (shv L0) = v := ⟨_, rfl⟩
  obtain ⟨C, hC⟩ : ∃ v, coCV (shv L0) = v := ⟨_, rfl⟩
  obtain ⟨ok, hok⟩ : ∃ v, coOk (shv L0) = v := ⟨_, rfl⟩
  rw [hG, hC] at hbd
  obtain ⟨hGl, hCl, hGt⟩ := hbd
  have HG := Lib.hid hG
  have HC := Lib.hid hC
  have HOK := Lib.hid hok
  clear hG hC hok htv
  go_enter Try.func4, Try.ntmps4
  go_wp2_with fail
  refine (szSheetS_any A0 c0 L0 _ _ AR.out.grid.mem (by omega) HROW.out (by omega) (by omega)).mono ?_
  rintro e w1 ⟨he, hq⟩
  rw [HV2.out] at he
  subst he
  have i0 : ¬ (1048576 : Int) - L0.length - tv < 0 := by omega
  clear HROW HV2
  have hz00 := hq.size
  have AR_ := Lib.hid (AR.out.below hq)
  have BB_ := Lib.hid (BB.out.below hq)
  clear AR BB
  have AR := AR_
  clear AR_
  have BB := BB_
  clear BB_
  clear hq
  go_wp2_with fail
  refine (toSheetS_any A0 c0 L0 _ AR.out.grid hl0 HR1.out).mono ?_
  rintro e w2 ⟨Aa, ca, La, rfl, hT, hO, hq⟩
  have HTa := Lib.hid hT
  have HLa := Lib.hid (show La.length = L0.length by rw [← shv_len La, hT, shv_len])
  have HXa := Lib.hid (show ∀ (k : Nat) (a : Shd), La[k]? = some a → a.h.L.length ≤ 1048576 from fun k a hh => by
    have h1 := shv_at hh
    rw [hT] at h1
    obtain ⟨y, h2, h3⟩ := shv_get h1
    have h4 := HR1.out k y h2
    simp only [Prod.mk.injEq] at h3
    rw [h3.2.2]; exact h4)
  have Xa_n := Lib.hid hO
  have hza := hq.size
  clear hT hO
  have AR_ := Lib.hid (AR.out.below hq)
  have BB_ := Lib.hid (BB.out.below hq)
  clear AR BB
  have AR := AR_
  clear AR_
  have BB := BB_
  clear BB_
  clear hq
  have Xa := Xa_n
  clear Xa_n
  go_wp2_with fail
  have hct := spec_ChartsOf_any Aa ca La _ Xa.out.grid (by rw [HLa.out]; exact hl0) HXa.out
  rw [HLa.out, HTa.out, HG.out, HC.out, HOK.out] at hct
  refine hct.mono ?_
  clear hct
  rintro e w3 ⟨As, cs, hss, Bs, ds, rfl, hT, hO, hq⟩
  have HTs := Lib.hid hT
  have Gs_n := Lib.hid hO.gown
  have Is_n := Lib.hid (RO.mk_ hO.ints_)
  have HNs := Lib.hid hO.ng
  have HRs := Lib.hid (show ∀ (k : Nat) (h : Hdr Sp), hss[k]? = some h → h.L.length ≤ 1048576 from fun k h hh => by have := tot_row (lns_at hh); rw [hT] at this; omega)
  have hzs := hq.size
  clear hT hO
  have AR_ := Lib.hid (AR.out.below hq)
  have BB_ := Lib.hid (BB.out.below hq)
  have Xa_ := Lib.hid (Xa.out.below hq)
  clear AR BB Xa
  have AR := AR_
  clear AR_
  have BB := BB_
  clear BB_
  have Xa := Xa_
  clear Xa_
  clear hq
  have Gs := Gs_n
  have Is := Is_n
  clear Gs_n Is_n
  clear Xa
  go_wp2_with fail
  refine (toSheetS_any A0 c0 L0 _ AR.out.grid hl0 HR1.out).mono ?_
  rintro e w4 ⟨Ax, cx, Lx, rfl, hT, hO, hq⟩
  have HTx := Lib.hid hT
  have HLx := Lib.hid (show Lx.length = L0.length by rw [← shv_len Lx, hT, shv_len])
  have HXx := Lib.hid (show ∀ (k : Nat) (a : Shd), Lx[k]? = some a → a.h.L.length ≤ 1048576 from fun k a hh => by
    have h1 := shv_at hh
    rw [hT] at h1
    obtain ⟨y, h2, h3⟩ := shv_get h1
    have h4 := HR1.out k y h2
    simp only [Prod.mk.injEq] at h3
    rw [h3.2.2]; exact h4)
  have Xx_n := Lib.hid hO
  have hzx := hq.size
  clear hT hO
  have AR_ := Lib.hid (AR.out.below hq)
  have BB_ := Lib.hid (BB.out.below hq)
  have Gs_ := Lib.hid (Gs.out.below hq)
  have Is_ := Lib.hid (Is.out.below hq)
  clear AR BB Gs Is
  have AR := AR_
  clear AR_
  have BB := BB_
  clear BB_
  have Gs := Gs_
  clear Gs_
  have Is := Is_
  clear Is_
  clear hq
  have Xx := Xx_n
  clear Xx_n
  go_wp2_with fail
  have hct := impl_ChartsOf_any Ax cx Lx _ Xx.out.grid (by rw [HLx.out]; exact hl0) HXx.out
  rw [HLx.out, HTx.out, HG.out, HC.out, HOK.out] at hct
  refine hct.mono ?_
  clear hct
  rintro e w5 ⟨Ag, cg, hsg, Bg, dg, rfl, hT, hO, hq⟩
  have HTg := Lib.hid hT
  have Gg_n := Lib.hid hO.gown
  have Ig_n := Lib.hid (RO.mk_ hO.ints_)
  have HNg := Lib.hid hO.ng
  have HRg := Lib.hid (show ∀ (k : Nat) (h : Hdr Sp), hsg[k]? = some h → h.L.length ≤ 1048576 from fun k h hh => by have := tot_row (lns_at hh); rw [hT] at this; omega)
  have hzg := hq.size
  clear hT hO
  have AR_ := Lib.hid (AR.out.below hq)
  have BB_ := Lib.hid (BB.out.below hq)
  have Gs_ := Lib.hid (Gs.out.below hq)
  have Is_ := Lib.hid (Is.out.below hq)
  have Xx_ := Lib.hid (Xx.out.below hq)
  clear AR BB Gs Is Xx
  have AR := AR_
  clear AR_
  have BB := BB_
  clear BB_
  have Gs := Gs_
  clear Gs_
  have Is := Is_
  clear Is_
  have Xx := Xx_
  clear Xx_
  clear hq
  have Gg := Gg_n
  have Ig := Ig_n
  clear Gg_n Ig_n
  go_wp2_with fail
  refine (eqSpotSS_same Ag As cg cs G.length hsg hss _ Gg.out.grid Gs.out.grid Gg.out.len (HTs.out.trans HTg.out.symm) (by omega) HRg.out).mono ?_
  rintro e w6 ⟨rfl, hq⟩
  have AR_ := Lib.hid (AR.out.below hq)
  have BB_ := Lib.hid (BB.out.below hq)
  have Gs_ := Lib.hid (Gs.out.below hq)
  have Is_ := Lib.hid (Is.out.below hq)
  have Xx_ := Lib.hid (Xx.out.below hq)
  have Gg_ := Lib.hid (Gg.out.below hq)
  have Ig_ := Lib.hid (Ig.out.below hq)
  clear AR BB Gs Is Xx Gg Ig
  have AR := AR_
  clear AR_
  have BB := BB_
  clear BB_
  have Gs := Gs_
  clear Gs_
  have Is := Is_
  clear Is_
  have Xx := Xx_
  clear Xx_
  have Gg := Gg_
  clear Gg_
  have Ig := Ig_
  clear Ig_
  clear hq
  go_wp2_with fail
  refine (eqIntS_any Bg Bs dg ds C C _ Ig.out.mem Is.out.mem (by omega) (by omega)).mono ?_
  rintro e w7 ⟨he, hq⟩
  rw [decide_eq_true rfl] at he
  subst he
  have AR_ := Lib.hid (AR.out.below hq)
  have BB_ := Lib.hid (BB.out.below hq)
  have Gs_ := Lib.hid (Gs.out.below hq)
  have Is_ := Lib.hid (Is.out.below hq)
  have Xx_ := Lib.hid (Xx.out.below hq)
  have Gg_ := Lib.hid (Gg.out.below hq)
  have Ig_ := Lib.hid (Ig.out.below hq)
  clear AR BB Gs Is Xx Gg Ig
  have AR := AR_
  clear AR_
  have BB := BB_
  clear BB_
  have Gs := Gs_
  clear Gs_
  have Is := Is_
  clear Is_
  have Xx := Xx_
  clear Xx_
  have Gg := Gg_
  clear Gg_
  have Ig := Ig_
  clear Ig_
  clear hq
  go_wp2_with fail
  refine (toSheetS_any A0 c0 L0 _ AR.out.grid hl0 HR1.out).mono ?_
  rintro e w8 ⟨Az, cz, Lz, rfl, hT, hO, hq⟩
  have HTz := Lib.hid hT
  have HLz := Lib.hid (show Lz.length = L0.length by rw [← shv_len Lz, hT, shv_len])
  have HXz := Lib.hid (show ∀ (k : Nat) (a : Shd), Lz[k]? = some a → a.h.L.length ≤ 1048576 from fun k a hh => by
    have h1 := shv_at hh
    rw [hT] at h1
    obtain ⟨y, h2, h3⟩ := shv_get h1
    have h4 := HR1.out k y h2
    simp only [Prod.mk.injEq] at h3
    rw [h3.2.2]; exact h4)
  have Xz_n := Lib.hid hO
  have hzz := hq.size
  clear hT hO
  have AR_ := Lib.hid (AR.out.below hq)
  have BB_ := Lib.hid (BB.out.below hq)
  have Gs_ := Lib.hid (Gs.out.below hq)
  have Is_ := Lib.hid (Is.out.below hq)
  have Xx_ := Lib.hid (Xx.out.below hq)
  have Gg_ := Lib.hid (Gg.out.below hq)
  have Ig_ := Lib.hid (Ig.out.below hq)
  clear AR BB Gs Is Xx Gg Ig
  have AR := AR_
  clear AR_
  have BB := BB_
  clear BB_
  have Gs := Gs_
  clear Gs_
  have Is := Is_
  clear Is_
  have Xx := Xx_
  clear Xx_
  have Gg := Gg_
  clear Gg_
  have Ig := Ig_
  clear Ig_
  clear hq
  have Xz := Xz_n
  clear Xz_n
  go_wp2_with fail
  refine (eqSheetS_same Ax Az cx cz L0.length Lx Lz _ Xx.out.grid Xz.out.grid HLx.out (HTz.out.trans HTx.out.symm) hl0 HXx.out).mono ?_
  rintro e w9 ⟨rfl, hq⟩
  have AR_ := Lib.hid (AR.out.below hq)
  have BB_ := Lib.hid (BB.out.below hq)
  have Gs_ := Lib.hid (Gs.out.below hq)
  have Is_ := Lib.hid (Is.out.below hq)
  have Xx_ := Lib.hid (Xx.out.below hq)
  have Gg_ := Lib.hid (Gg.out.below hq)
  have Ig_ := Lib.hid (Ig.out.below hq)
  have Xz_ := Lib.hid (Xz.out.below hq)
  clear AR BB Gs Is Xx Gg Ig Xz
  have AR := AR_
  clear AR_
  have BB := BB_
  clear BB_
  have Gs := Gs_
  clear Gs_
  have Is := Is_
  clear Is_
  have Xx := Xx_
  clear Xx_
  have Gg := Gg_
  clear Gg_
  have Ig := Ig_
  clear Ig_
  have Xz := Xz_
  clear Xz_
  clear hq
  clear Xz
  have HTR := Lib.hid (show tot (shr Lx) = tv by rw [shr_shv, HTx.out, ← shr_shv, HTV.out])
  go_wp2_with fail
  refine (markSheetS_any _ _ Ax cx L0.length Lx 1 _ Xx.out hl0 (by rw [HTR.out]; exact ht0) (by omega) (by omega)).mono ?_
  rintro e w10 ⟨he, hlo, hhi⟩
  rw [HTR.out] at he
  subst he
  have i1 : ¬ (1 : Int) + 3 * (L0.length : Int) + 3 * (tv : Int) < 0 := by omega
  have hzs0 := AR.out.sz
  have AR_ := Lib.hid (AR.out.low hlo (by omega))
  have BB_ := Lib.hid (BB.out.low hlo (by omega))
  have Gs_ := Lib.hid (Gs.out.low hlo (by omega))
  have Is_ := Lib.hid (Is.out.low hlo (by omega))
  have Gg_ := Lib.hid (Gg.out.high hlo.size hhi (by omega))
  have Ig_ := Lib.hid (Ig.out.high hlo.size hhi (by omega))
  clear AR BB Gs Is Xx Gg Ig
  have AR := AR_
  clear AR_
  have BB := BB_
  clear BB_
  have Gs := Gs_
  clear Gs_
  have Is := Is_
  clear Is_
  have Gg := Gg_
  clear Gg_
  have Ig := Ig_
  clear Ig_
  clear hlo hhi
  go_wp2_with fail
  refine (eqSpotSS_same Ag As cg cs G.length hsg hss _ Gg.out.grid Gs.out.grid Gg.out.len (HTs.out.trans HTg.out.symm) (by omega) HRg.out).mono ?_
  rintro e w11 ⟨rfl, hq⟩
  have AR_ := Lib.hid (AR.out.below hq)
  have BB_ := Lib.hid (BB.out.below hq)
  have Gs_ := Lib.hid (Gs.out.below hq)
  have Is_ := Lib.hid (Is.out.below hq)
  have Gg_ := Lib.hid (Gg.out.below hq)
  have Ig_ := Lib.hid (Ig.out.below hq)
  clear AR BB Gs Is Gg Ig
  have AR := AR_
  clear AR_
  have BB := BB_
  clear BB_
  have Gs := Gs_
  clear Gs_
  have Is := Is_
  clear Is_
  have Gg := Gg_
  clear Gg_
  have Ig := Ig_
  clear Ig_
  clear hq
  go_wp2_with fail
  refine (eqIntS_any Bg Bs dg ds C C _ Ig.out.mem Is.out.mem (by omega) (by omega)).mono ?_
  rintro e w12 ⟨he, hq⟩
  rw [decide_eq_true rfl] at he
  subst he
  have AR_ := Lib.hid (AR.out.below hq)
  have BB_ := Lib.hid (BB.out.below hq)
  have Gs_ := Lib.hid (Gs.out.below hq)
  have Is_ := Lib.hid (Is.out.below hq)
  have Gg_ := Lib.hid (Gg.out.below hq)
  have Ig_ := Lib.hid (Ig.out.below hq)
  clear AR BB Gs Is Gg Ig
  have AR := AR_
  clear AR_
  have BB := BB_
  clear BB_
  have Gs := Gs_
  clear Gs_
  have Is := Is_
  clear Is_
  have Gg := Gg_
  clear Gg_
  have Ig := Ig_
  clear Ig_
  clear hq
  have hgz := Gg.out.sz
  have hiz := Ig.out.sz_
  go_wp2_with fail
  refine (markSpotSS_any _ _ Ag cg G.length hsg 1 _ Gg.out (by omega) (by rw [HTg.out]; omega) (by omega) (by omega) (by omega)).mono ?_
  rintro e w13 ⟨he, hM, hlo, hhi, hro⟩
  rw [HTg.out] at he
  subst he
  have M_n := Lib.hid hM
  have I_n := Lib.hid (Ig.out.keepB hlo.size (fun b hb => hro b (by have := Ig.out.top b hb; omega) (HNg.out b hb).2))
  clear hM hro
  have AR_ := Lib.hid (AR.out.low hlo (by omega))
  have BB_ := Lib.hid (BB.out.low hlo (by omega))
  have Gs_ := Lib.hid (Gs.out.low hlo (by omega))
  have Is_ := Lib.hid (Is.out.low hlo (by omega))
  clear AR BB Gs Is Gg Ig
  have AR := AR_
  clear AR_
  have BB := BB_
  clear BB_
  have Gs := Gs_
  clear Gs_
  have Is := Is_
  clear Is_
  clear hlo hhi
  have Mg := M_n
  have Ig := I_n
  clear M_n I_n
  go_wp2_with fail
  refine (markIntS_any _ Bg dg C (1 + 2 * (tot G : Int)) _ Ig.out.own (by omega) (by omega) (by omega)).mono ?_
  rintro e w14 ⟨rfl, hO, hg⟩
  have hlo := low_of_grown hg (by have := Ig.out.sz_; omega) (fun k hk => (Ig.out.own.lt k hk).1)
  have I_n := Lib.hid (RO.mk hO Ig.out.top (Nat.le_trans Ig.out.sz_ hg.size))
  have M_n := Lib.hid (Mg.out.keepB hg.size (fun b hb hin => hg.block b hb (fun e => by
    have h1 := HNg.out b e.symm
    rcases hin with h2 | ⟨k, x, h2, h3⟩
    · exact h1.1 h2
    · exact h1.2 k x h2 h3)))
  clear hO hg
  have AR_ := Lib.hid (AR.out.low hlo (by omega))
  have BB_ := Lib.hid (BB.out.low hlo (by omega))
  have Gs_ := Lib.hid (Gs.out.low hlo (by omega))
  have Is_ := Lib.hid (Is.out.low hlo (by omega))
  clear AR BB Gs Is Mg Ig
  have AR := AR_
  clear AR_
  have BB := BB_
  clear BB_
  have Gs := Gs_
  clear Gs_
  have Is := Is_
  clear Is_
  clear hlo
  have Mg := M_n
  have Jg := I_n
  clear M_n I_n
  go_wp2_with fail
  refine (heldSpotSS_any _ _ Ag cg G.length hsg 1 _ Mg.out (by omega) (by rw [HTg.out]; omega) (by omega) (by omega)).mono ?_
  rintro e w15 ⟨he, rfl⟩
  rw [HTg.out] at he
  subst he
  have i2 : ¬ (1 : Int) + 2 * (tot G : Int) < 0 := by omega
  have i3 : ¬ (1 : Int) + 2 * (tot G : Int) + (C.length : Int) < 0 := by omega
  go_wp2_with fail
  refine (heldIntS_any Bg C.length dg (1 + 2 * (tot G : Int)) _ Jg.out.mem (by omega) (by omega) (by omega)).mono ?_
  rintro e w16 ⟨rfl, rfl⟩
  go_wp2_with fail
  refine (toSheetS_any A0 c0 L0 _ AR.out.grid hl0 HR1.out).mono ?_
  rintro e w17 ⟨Ad, cd, Ld, rfl, hT, hO, hq⟩
  have HTd := Lib.hid hT
  have HLd := Lib.hid (show Ld.length = L0.length by rw [← shv_len Ld, hT, shv_len])
  have HXd := Lib.hid (show ∀ (k : Nat) (a : Shd), Ld[k]? = some a → a.h.L.length ≤ 1048576 from fun k a hh => by
    have h1 := shv_at hh
    rw [hT] at h1
    obtain ⟨y, h2, h3⟩ := shv_get h1
    have h4 := HR1.out k y h2
    simp only [Prod.mk.injEq] at h3
    rw [h3.2.2]; exact h4)
  have Xd_n := Lib.hid hO
  have hzd := hq.size
  clear hT hO
  have AR_ := Lib.hid (AR.out.below hq)
  have BB_ := Lib.hid (BB.out.below hq)
  have Gs_ := Lib.hid (Gs.out.below hq)
  have Is_ := Lib.hid (Is.out.below hq)
  have Mg_ := Lib.hid (Mg.out.below hq)
  have Jg_ := Lib.hid (Jg.out.below hq)
  clear AR BB Gs Is Mg Jg
  have AR := AR_
  clear AR_
  have BB := BB_
  clear BB_
  have Gs := Gs_
  clear Gs_
  have Is := Is_
  clear Is_
  have Mg := Mg_
  clear Mg_
  have Jg := Jg_
  clear Jg_
  clear hq
  have Xd := Xd_n
  clear Xd_n
  go_wp2_with fail
  have hct := impl_ChartsOf_any Ad cd Ld _ Xd.out.grid (by rw [HLd.out]; exact hl0) HXd.out
  rw [HLd.out, HTd.out, HG.out, HC.out, HOK.out] at hct
  refine hct.mono ?_
  clear hct
  rintro e w18 ⟨Ah, ch, hsh, Bh, dh, rfl, hT, hO, hq⟩
  have HTh := Lib.hid hT
  have Gh_n := Lib.hid hO.gown
  have Ih_n := Lib.hid (RO.mk_ hO.ints_)
  have HNh := Lib.hid hO.ng
  have HRh := Lib.hid (show ∀ (k : Nat) (h : Hdr Sp), hsh[k]? = some h → h.L.length ≤ 1048576 from fun k h hh => by have := tot_row (lns_at hh); rw [hT] at this; omega)
  have hzh := hq.size
  clear hT hO
  have AR_ := Lib.hid (AR.out.below hq)
  have BB_ := Lib.hid (BB.out.below hq)
  have Gs_ := Lib.hid (Gs.out.below hq)
  have Is_ := Lib.hid (Is.out.below hq)
  have Mg_ := Lib.hid (Mg.out.below hq)
  have Jg_ := Lib.hid (Jg.out.below hq)
  have Xd_ := Lib.hid (Xd.out.below hq)
  clear AR BB Gs Is Mg Jg Xd
  have AR := AR_
  clear AR_
  have BB := BB_
  clear BB_
  have Gs := Gs_
  clear Gs_
  have Is := Is_
  clear Is_
  have Mg := Mg_
  clear Mg_
  have Jg := Jg_
  clear Jg_
  have Xd := Xd_
  clear Xd_
  clear hq
  have Gh := Gh_n
  have Ih := Ih_n
  clear Gh_n Ih_n
  go_wp2_with fail
  refine (eqSpotSS_same Ah As ch cs G.length hsh hss _ Gh.out.grid Gs.out.grid Gh.out.len (HTs.out.trans HTh.out.symm) (by omega) HRh.out).mono ?_
  rintro e w19 ⟨rfl, hq⟩
  have AR_ := Lib.hid (AR.out.below hq)
  have BB_ := Lib.hid (BB.out.below hq)
  have Gs_ := Lib.hid (Gs.out.below hq)
  have Is_ := Lib.hid (Is.out.below hq)
  have Mg_ := Lib.hid (Mg.out.below hq)
  have Jg_ := Lib.hid (Jg.out.below hq)
  have Xd_ := Lib.hid (Xd.out.below hq)
  have Gh_ := Lib.hid (Gh.out.below hq)
  have Ih_ := Lib.hid (Ih.out.below hq)
  clear AR BB Gs Is Mg Jg Xd Gh Ih
  have AR := AR_
  clear AR_
  have BB := BB_
  clear BB_
  have Gs := Gs_
  clear Gs_
  have Is := Is_
  clear Is_
  have Mg := Mg_
  clear Mg_
  have Jg := Jg_
  clear Jg_
  have Xd := Xd_
  clear Xd_
  have Gh := Gh_
  clear Gh_
  have Ih := Ih_
  clear Ih_
  clear hq
  go_wp2_with fail
  refine (eqIntS_any Bh Bs dh ds C C _ Ih.out.mem Is.out.mem (by omega) (by omega)).mono ?_
  rintro e w20 ⟨he, hq⟩
  rw [decide_eq_true rfl] at he
  subst he
  have AR_ := Lib.hid (AR.out.below hq)
  have BB_ := Lib.hid (BB.out.below hq)
  have Gs_ := Lib.hid (Gs.out.below hq)
  have Is_ := Lib.hid (Is.out.below hq)
  have Mg_ := Lib.hid (Mg.out.below hq)
  have Jg_ := Lib.hid (Jg.out.below hq)
  have Xd_ := Lib.hid (Xd.out.below hq)
  have Gh_ := Lib.hid (Gh.out.below hq)
  have Ih_ := Lib.hid (Ih.out.below hq)
  clear AR BB Gs Is Mg Jg Xd Gh Ih
  have AR := AR_
  clear AR_
  have BB := BB_
  clear BB_
  have Gs := Gs_
  clear Gs_
  have Is := Is_
  clear Is_
  have Mg := Mg_
  clear Mg_
  have Jg := Jg_
  clear Jg_
  have Xd := Xd_
  clear Xd_
  have Gh := Gh_
  clear Gh_
  have Ih := Ih_
  clear Ih_
  clear hq
  go_wp2_with fail
  refine (heldSpotSS_any _ _ Ag cg G.length hsg 1 _ Mg.out (by omega) (by rw [HTg.out]; omega) (by omega) (by omega)).mono ?_
  rintro e w21 ⟨he, rfl⟩
  rw [HTg.out] at he
  subst he
  go_wp2_with fail
  refine (heldIntS_any Bg C.length dg (1 + 2 * (tot G : Int)) _ Jg.out.mem (by omega) (by omega) (by omega)).mono ?_
  rintro e w22 ⟨rfl, rfl⟩
  go_wp2_with fail
  go_ret
  exact ⟨rfl, BB.out.bel⟩

end Go.Proofs.Ytbgbcajcajaocaa
