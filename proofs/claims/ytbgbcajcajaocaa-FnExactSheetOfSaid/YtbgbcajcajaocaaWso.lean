/-
  The walk of the law of SheetOf.
-/
import Derived.Test.YtbgbcajcajaocaaRo
import Derived.Test.YtbgbcajcajaocaaSof
namespace Go.Proofs.Ytbgbcajcajaocaa
open Go.RowKit Go.Sort

theorem sfV_len (G : List (List Sp)) (C : List Int) (p : Int) : (sfV G C p).length ≤ 1048576 := by
  unfold sfV
  split
  · rename_i h
    rw [sfOk, Bool.and_eq_true] at h
    have := acOk_iff.1 h.1
    rw [soTo_len]; omega
  · simp
set_option maxRecDepth 100000 in
set_option maxHeartbeats 12800000 in
theorem FnExactSheetOf_walk (A0 : Option Addr) (c0 : Nat) (L0 : List (Hdr Sp)) (A1 : Option Addr) (c1 : Nat) (L1 : List Int) (a2 : Int) (w : World) (m0 : Mem w A0 (L0.flatMap fun h => [Value.slice h.A h.L.length h.c])) (k0 : ∀ h ∈ L0, okHdr w (fun s : Sp => [Value.int .i64 s.x, Value.int .i64 s.y]) okSp h) (l0 : L0.length ≤ c0) (n0 : c0 ≤ maxLen)
    (m1 : Mem w A1 (ints L1)) (_ : ∀ a ∈ L1, okInt a) (l1 : L1.length ≤ c1) (n1 : c1 ≤ maxLen) (_ : okInt a2) : Calls Try.prog 3 #[.slice A0 L0.length c0, .slice A1 L1.length c1, .int .i64 a2] w fun e w' => e = .returned (.bool true) ∧ Below w.heap.size w w' := by
  have hrow : ∀ (k : Nat) (h : Hdr Sp), L0[k]? = some h → h.L.length ≤ 9223372036854775807 := fun k h hh => (by
    have := k0 h (List.mem_of_getElem? hh)
    have h1 := this.2.2.1
    have h2 := this.2.2.2
    unfold maxLen at h2
    omega)
  have AR := Lib.hid (AG.mk_ (w := w) (A := A0) (hs := L0) ⟨m0, fun k h hh => (k0 h (List.mem_of_getElem? hh)).1⟩)
  have AI := Lib.hid (AM.mk_ m1)
  have BB := Lib.hid (show BB_ w w from ⟨Below.refl _ _⟩)
  unfold maxLen at n0 n1
  clear m0 k0 m1
  by_cases t1 : L1.length ≤ 1048576
  case neg =>
    go_enter Try.func3, Try.ntmps3
    go_wp2_with fail
    go_ret
    exact ⟨rfl, by (repeat (first | exact Below.refl _ _ | assumption | (refine Below.alloc ?_ (by first | omega | (simp; done) | (simp; omega)) _) | (refine Below.setCell ?_ (by first | omega | (simp; done) | (simp; omega)) _) | (refine Below.drew ?_) | (refine Below.drewN ?_ _) | (refine Below.next (by assumption) ?_ (by first | omega | (simp; done) | (simp; omega)))))⟩
  have HROW := Lib.hid hrow
  clear hrow
  by_cases t0 : (L0.length : Int) + tot (lns L0) ≤ 1048576
  case neg =>
    have HV := Lib.hid (show szV L0.length (lns L0) 1048576 = -1 from if_neg t0)
    go_enter Try.func3, Try.ntmps3
    go_wp2_with fail
    refine (szSpotSS_any A0 c0 L0 _ _ AR.out.grid.mem (by omega) HROW.out (by omega) (by omega)).mono ?_
    rintro e w' ⟨he, rfl⟩
    rw [HV.out] at he
    subst he
    go_wp2_with fail
    go_ret
    exact ⟨rfl, by (repeat (first | exact Below.refl _ _ | assumption | (refine Below.alloc ?_ (by first | omega | (simp; done) | (simp; omega)) _) | (refine Below.setCell ?_ (by first | omega | (simp; done) | (simp; omega)) _) | (refine Below.drew ?_) | (refine Below.drewN ?_ _) | (refine Below.next (by assumption) ?_ (by first | omega | (simp; done) | (simp; omega)))))⟩
  have HV := Lib.hid (show szV L0.length (lns L0) 1048576 = 1048576 - L0.length - tot (lns L0) from if_pos t0)
  have hl0 : L0.length ≤ 1048576 := by omega
  have ht0 : tot (lns L0) ≤ 1048576 := by omega
  have HR1 := Lib.hid (show ∀ (k : Nat) (h : Hdr Sp), L0[k]? = some h → h.L.length ≤ 1048576 from fun k h hh => by have := tot_row (lns_at hh); omega)
  obtain ⟨G, hG⟩ : ∃ G, lns L0 = G := ⟨_, rfl⟩
  obtain ⟨P, hP⟩ : ∃ v, sfP G L1 a2 = v := ⟨_, rfl⟩
  obtain ⟨S, hS⟩ : ∃ v, sfS G L1 a2 = v := ⟨_, rfl⟩
  obtain ⟨V, hVV⟩ : ∃ v, sfV G L1 a2 = v := ⟨_, rfl⟩
  obtain ⟨ok, hok⟩ : ∃ v, sfOk G L1 a2 = v := ⟨_, rfl⟩
  have hVl : V.length ≤ 1048576 := by rw [← hVV]; exact sfV_len _ _ _
  have HG := Lib.hid hG
  have HP := Lib.hid hP
  have HS := Lib.hid hS
  have HVV := Lib.hid hVV
  have HOK := Lib.hid hok
  rw [hG] at ht0 t0
  have HV2 := Lib.hid (show szV L0.length (lns L0) 1048576 = 1048576 - L0.length - tot G by rw [HV.out, hG])
  clear hG hP hS hVV hok HV
  go_enter Try.func3, Try.ntmps3
  go_wp2_with fail
  refine (szSpotSS_any A0 c0 L0 _ _ AR.out.grid.mem (by omega) HROW.out (by omega) (by omega)).mono ?_
  rintro e w' ⟨he, rfl⟩
  rw [HV2.out] at he
  subst he
  have i0 : ¬ (1048576 : Int) - L0.length - tot G < 0 := by omega
  clear HROW HV2
  go_wp2_with fail
  refine (toSpotSS_any A0 c0 L0 _ AR.out.grid hl0 HR1.out).mono ?_
  rintro e w1 ⟨Aa, ca, hsa, rfl, hT, hO, hq⟩
  have HTa := Lib.hid (hT.trans HG.out)
  have HLa := Lib.hid (show hsa.length = L0.length by rw [← lns_len hsa, hT, lns_len])
  have HXa := Lib.hid (show ∀ (k : Nat) (h : Hdr Sp), hsa[k]? = some h → h.L.length ≤ 1048576 ∧ h.L.length ≤ h.c from fun k h hh => by have := tot_row (lns_at hh); rw [hT, HG.out] at this; exact ⟨by omega, hO.cap k h hh⟩)
  have Xa_n := Lib.hid hO
  have hza := hq.size
  clear hT hO
  have AR_ := Lib.hid (AR.out.below hq)
  have AI_ := Lib.hid (AI.out.below hq)
  have BB_ := Lib.hid (BB.out.below hq)
  clear AR AI BB
  have AR := AR_
  clear AR_
  have AI := AI_
  clear AI_
  have BB := BB_
  clear BB_
  clear hq
  have Xa := Xa_n
  clear Xa_n
  go_wp2_with fail
  refine (toIntS_any _ _ L1 _ AI.out.mem t1).mono ?_
  rintro e w2 ⟨Ab, cb, rfl, hO, hq⟩
  have Xb_n := Lib.hid (RO.mk_ hO)
  have hzb := hq.size
  clear hO
  have AR_ := Lib.hid (AR.out.below hq)
  have AI_ := Lib.hid (AI.out.below hq)
  have BB_ := Lib.hid (BB.out.below hq)
  have Xa_ := Lib.hid (Xa.out.below hq)
  clear AR AI BB Xa
  have AR := AR_
  clear AR_
  have AI := AI_
  clear AI_
  have BB := BB_
  clear BB_
  have Xa := Xa_
  clear Xa_
  clear hq
  have Xb := Xb_n
  clear Xb_n
  go_wp2_with fail
  have hct := spec_SheetOf_any Aa ca hsa Ab cb L1 a2 _ Xa.out.grid Xb.out.mem (by rw [HLa.out]; exact hl0) t1 HXa.out
  rw [HTa.out, HLa.out, HP.out, HS.out, HVV.out, HOK.out] at hct
  refine hct.mono ?_
  clear hct
  rintro e w3 ⟨As, cs, rfl, hO, hq⟩
  have Xs_n := Lib.hid (RO.mk_ hO)
  have hzs := hq.size
  clear hO
  have AR_ := Lib.hid (AR.out.below hq)
  have AI_ := Lib.hid (AI.out.below hq)
  have BB_ := Lib.hid (BB.out.below hq)
  have Xa_ := Lib.hid (Xa.out.below hq)
  have Xb_ := Lib.hid (Xb.out.below hq)
  clear AR AI BB Xa Xb
  have AR := AR_
  clear AR_
  have AI := AI_
  clear AI_
  have BB := BB_
  clear BB_
  have Xa := Xa_
  clear Xa_
  have Xb := Xb_
  clear Xb_
  clear hq
  have Xs := Xs_n
  clear Xs_n
  have Bs_n := Lib.hid (Bx.mk (Blk.new w3 #[.int .i64 P, .int .i64 S.x, .int .i64 S.y, .slice As V.length cs] 29))
  have hqa := below_alloc w3 (.cells #[.int .i64 P, .int .i64 S.x, .int .i64 S.y, .slice As V.length cs] 29)
  have hzbs := hqa.size
  have hbls : w3.heap.size < (w3.alloc (.cells #[.int .i64 P, .int .i64 S.x, .int .i64 S.y, .slice As V.length cs] 29)).heap.size := by simp
  have AR_ := Lib.hid (AR.out.below hqa)
  have AI_ := Lib.hid (AI.out.below hqa)
  have BB_ := Lib.hid (BB.out.below hqa)
  have Xa_ := Lib.hid (Xa.out.below hqa)
  have Xb_ := Lib.hid (Xb.out.below hqa)
  have Xs_ := Lib.hid (Xs.out.below hqa)
  clear AR AI BB Xa Xb Xs
  have AR := AR_
  clear AR_
  have AI := AI_
  clear AI_
  have BB := BB_
  clear BB_
  have Xa := Xa_
  clear Xa_
  have Xb := Xb_
  clear Xb_
  have Xs := Xs_
  clear Xs_
  clear hqa
  have Bs := Bs_n
  clear Bs_n
  clear Xa Xb
  go_wp2_with fail
  refine (toSpotSS_any A0 c0 L0 _ AR.out.grid hl0 HR1.out).mono ?_
  rintro e w4 ⟨Ax, cx, hsx, rfl, hT, hO, hq⟩
  have HTx := Lib.hid (hT.trans HG.out)
  have HLx := Lib.hid (show hsx.length = L0.length by rw [← lns_len hsx, hT, lns_len])
  have HXx := Lib.hid (show ∀ (k : Nat) (h : Hdr Sp), hsx[k]? = some h → h.L.length ≤ 1048576 ∧ h.L.length ≤ h.c from fun k h hh => by have := tot_row (lns_at hh); rw [hT, HG.out] at this; exact ⟨by omega, hO.cap k h hh⟩)
  have Xx_n := Lib.hid hO
  have hzx := hq.size
  clear hT hO
  have AR_ := Lib.hid (AR.out.below hq)
  have AI_ := Lib.hid (AI.out.below hq)
  have BB_ := Lib.hid (BB.out.below hq)
  have Xs_ := Lib.hid (Xs.out.below hq)
  have Bs_ := Lib.hid (Bs.out.below hq)
  clear AR AI BB Xs Bs
  have AR := AR_
  clear AR_
  have AI := AI_
  clear AI_
  have BB := BB_
  clear BB_
  have Xs := Xs_
  clear Xs_
  have Bs := Bs_
  clear Bs_
  clear hq
  have Xx := Xx_n
  clear Xx_n
  go_wp2_with fail
  refine (toIntS_any _ _ L1 _ AI.out.mem t1).mono ?_
  rintro e w5 ⟨Ay, cy, rfl, hO, hq⟩
  have Xy_n := Lib.hid (RO.mk_ hO)
  have hzy := hq.size
  clear hO
  have AR_ := Lib.hid (AR.out.below hq)
  have AI_ := Lib.hid (AI.out.below hq)
  have BB_ := Lib.hid (BB.out.below hq)
  have Xs_ := Lib.hid (Xs.out.below hq)
  have Bs_ := Lib.hid (Bs.out.below hq)
  have Xx_ := Lib.hid (Xx.out.below hq)
  clear AR AI BB Xs Bs Xx
  have AR := AR_
  clear AR_
  have AI := AI_
  clear AI_
  have BB := BB_
  clear BB_
  have Xs := Xs_
  clear Xs_
  have Bs := Bs_
  clear Bs_
  have Xx := Xx_
  clear Xx_
  clear hq
  have Xy := Xy_n
  clear Xy_n
  go_wp2_with fail
  have hct := impl_SheetOf_any Ax cx hsx Ay cy L1 a2 _ Xx.out.grid Xy.out.mem (by rw [HLx.out]; exact hl0) t1 HXx.out
  rw [HTx.out, HLx.out, HP.out, HS.out, HVV.out, HOK.out] at hct
  refine hct.mono ?_
  clear hct
  rintro e w6 ⟨Ag, cg, rfl, hO, hq⟩
  have Xg_n := Lib.hid (RO.mk_ hO)
  have hzg := hq.size
  clear hO
  have AR_ := Lib.hid (AR.out.below hq)
  have AI_ := Lib.hid (AI.out.below hq)
  have BB_ := Lib.hid (BB.out.below hq)
  have Xs_ := Lib.hid (Xs.out.below hq)
  have Bs_ := Lib.hid (Bs.out.below hq)
  have Xx_ := Lib.hid (Xx.out.below hq)
  have Xy_ := Lib.hid (Xy.out.below hq)
  clear AR AI BB Xs Bs Xx Xy
  have AR := AR_
  clear AR_
  have AI := AI_
  clear AI_
  have BB := BB_
  clear BB_
  have Xs := Xs_
  clear Xs_
  have Bs := Bs_
  clear Bs_
  have Xx := Xx_
  clear Xx_
  have Xy := Xy_
  clear Xy_
  clear hq
  have Xg := Xg_n
  clear Xg_n
  have Bg_n := Lib.hid (Bx.mk (Blk.new w6 #[.int .i64 P, .int .i64 S.x, .int .i64 S.y, .slice Ag V.length cg] 29))
  have hqa := below_alloc w6 (.cells #[.int .i64 P, .int .i64 S.x, .int .i64 S.y, .slice Ag V.length cg] 29)
  have hzbg := hqa.size
  have hblg : w6.heap.size < (w6.alloc (.cells #[.int .i64 P, .int .i64 S.x, .int .i64 S.y, .slice Ag V.length cg] 29)).heap.size := by simp
  have AR_ := Lib.hid (AR.out.below hqa)
  have AI_ := Lib.hid (AI.out.below hqa)
  have BB_ := Lib.hid (BB.out.below hqa)
  have Xs_ := Lib.hid (Xs.out.below hqa)
  have Bs_ := Lib.hid (Bs.out.below hqa)
  have Xx_ := Lib.hid (Xx.out.below hqa)
  have Xy_ := Lib.hid (Xy.out.below hqa)
  have Xg_ := Lib.hid (Xg.out.below hqa)
  clear AR AI BB Xs Bs Xx Xy Xg
  have AR := AR_
  clear AR_
  have AI := AI_
  clear AI_
  have BB := BB_
  clear BB_
  have Xs := Xs_
  clear Xs_
  have Bs := Bs_
  clear Bs_
  have Xx := Xx_
  clear Xx_
  have Xy := Xy_
  clear Xy_
  have Xg := Xg_
  clear Xg_
  clear hqa
  have Bg := Bg_n
  clear Bg_n
  have qg_0 := (Bg.out.blk.cell 0).trans (show _ = some (Value.int .i64 P) from rfl)
  have qg_1 := (Bg.out.blk.cell 1).trans (show _ = some (Value.int .i64 S.x) from rfl)
  have qg_2 := (Bg.out.blk.cell 2).trans (show _ = some (Value.int .i64 S.y) from rfl)
  have qg_3 := (Bg.out.blk.cell 3).trans (show _ = some (Value.slice Ag V.length cg) from rfl)
  have qlg := Bg.out.blk.lt
  have qs_0 := (Bs.out.blk.cell 0).trans (show _ = some (Value.int .i64 P) from rfl)
  have qs_1 := (Bs.out.blk.cell 1).trans (show _ = some (Value.int .i64 S.x) from rfl)
  have qs_2 := (Bs.out.blk.cell 2).trans (show _ = some (Value.int .i64 S.y) from rfl)
  have qs_3 := (Bs.out.blk.cell 3).trans (show _ = some (Value.slice As V.length cs) from rfl)
  have qls := Bs.out.blk.lt
  go_wp2_with fail
  refine (eqSheet_any P P S S Ag As cg cs V V _ Xg.out.mem Xs.out.mem hVl hVl).mono ?_
  rintro e w7 ⟨he, hq⟩
  rw [shEq_same] at he
  subst he
  clear qg_0 qg_1 qg_2 qg_3 qlg qs_0 qs_1 qs_2 qs_3 qls
  have AR_ := Lib.hid (AR.out.below hq)
  have AI_ := Lib.hid (AI.out.below hq)
  have BB_ := Lib.hid (BB.out.below hq)
  have Xs_ := Lib.hid (Xs.out.below hq)
  have Bs_ := Lib.hid (Bs.out.below hq)
  have Xx_ := Lib.hid (Xx.out.below hq)
  have Xy_ := Lib.hid (Xy.out.below hq)
  have Xg_ := Lib.hid (Xg.out.below hq)
  have Bg_ := Lib.hid (Bg.out.below hq)
  clear AR AI BB Xs Bs Xx Xy Xg Bg
  have AR := AR_
  clear AR_
  have AI := AI_
  clear AI_
  have BB := BB_
  clear BB_
  have Xs := Xs_
  clear Xs_
  have Bs := Bs_
  clear Bs_
  have Xx := Xx_
  clear Xx_
  have Xy := Xy_
  clear Xy_
  have Xg := Xg_
  clear Xg_
  have Bg := Bg_
  clear Bg_
  clear hq
  go_wp2_with fail
  refine (toSpotSS_any A0 c0 L0 _ AR.out.grid hl0 HR1.out).mono ?_
  rintro e w8 ⟨Az, cz, hsz, rfl, hT, hO, hq⟩
  have HTz := Lib.hid (hT.trans HG.out)
  have HLz := Lib.hid (show hsz.length = L0.length by rw [← lns_len hsz, hT, lns_len])
  have HXz := Lib.hid (show ∀ (k : Nat) (h : Hdr Sp), hsz[k]? = some h → h.L.length ≤ 1048576 ∧ h.L.length ≤ h.c from fun k h hh => by have := tot_row (lns_at hh); rw [hT, HG.out] at this; exact ⟨by omega, hO.cap k h hh⟩)
  have Xz_n := Lib.hid hO
  have hzz := hq.size
  clear hT hO
  have AR_ := Lib.hid (AR.out.below hq)
  have AI_ := Lib.hid (AI.out.below hq)
  have BB_ := Lib.hid (BB.out.below hq)
  have Xs_ := Lib.hid (Xs.out.below hq)
  have Bs_ := Lib.hid (Bs.out.below hq)
  have Xx_ := Lib.hid (Xx.out.below hq)
  have Xy_ := Lib.hid (Xy.out.below hq)
  have Xg_ := Lib.hid (Xg.out.below hq)
  have Bg_ := Lib.hid (Bg.out.below hq)
  clear AR AI BB Xs Bs Xx Xy Xg Bg
  have AR := AR_
  clear AR_
  have AI := AI_
  clear AI_
  have BB := BB_
  clear BB_
  have Xs := Xs_
  clear Xs_
  have Bs := Bs_
  clear Bs_
  have Xx := Xx_
  clear Xx_
  have Xy := Xy_
  clear Xy_
  have Xg := Xg_
  clear Xg_
  have Bg := Bg_
  clear Bg_
  clear hq
  have Xz := Xz_n
  clear Xz_n
  go_wp2_with fail
  refine (eqSpotSS_same Ax Az cx cz L0.length hsx hsz _ Xx.out.grid Xz.out.grid HLx.out (HTz.out.trans HTx.out.symm) hl0 (fun k h hh => (HXx.out k h hh).1)).mono ?_
  rintro e w9 ⟨rfl, hq⟩
  have AR_ := Lib.hid (AR.out.below hq)
  have AI_ := Lib.hid (AI.out.below hq)
  have BB_ := Lib.hid (BB.out.below hq)
  have Xs_ := Lib.hid (Xs.out.below hq)
  have Bs_ := Lib.hid (Bs.out.below hq)
  have Xx_ := Lib.hid (Xx.out.below hq)
  have Xy_ := Lib.hid (Xy.out.below hq)
  have Xg_ := Lib.hid (Xg.out.below hq)
  have Bg_ := Lib.hid (Bg.out.below hq)
  have Xz_ := Lib.hid (Xz.out.below hq)
  clear AR AI BB Xs Bs Xx Xy Xg Bg Xz
  have AR := AR_
  clear AR_
  have AI := AI_
  clear AI_
  have BB := BB_
  clear BB_
  have Xs := Xs_
  clear Xs_
  have Bs := Bs_
  clear Bs_
  have Xx := Xx_
  clear Xx_
  have Xy := Xy_
  clear Xy_
  have Xg := Xg_
  clear Xg_
  have Bg := Bg_
  clear Bg_
  have Xz := Xz_
  clear Xz_
  clear hq
  clear Xz
  go_wp2_with fail
  refine (toIntS_any _ _ L1 _ AI.out.mem t1).mono ?_
  rintro e w10 ⟨Av, cv, rfl, hO, hq⟩
  have Xv_n := Lib.hid (RO.mk_ hO)
  have hzv := hq.size
  clear hO
  have AR_ := Lib.hid (AR.out.below hq)
  have AI_ := Lib.hid (AI.out.below hq)
  have BB_ := Lib.hid (BB.out.below hq)
  have Xs_ := Lib.hid (Xs.out.below hq)
  have Bs_ := Lib.hid (Bs.out.below hq)
  have Xx_ := Lib.hid (Xx.out.below hq)
  have Xy_ := Lib.hid (Xy.out.below hq)
  have Xg_ := Lib.hid (Xg.out.below hq)
  have Bg_ := Lib.hid (Bg.out.below hq)
  clear AR AI BB Xs Bs Xx Xy Xg Bg
  have AR := AR_
  clear AR_
  have AI := AI_
  clear AI_
  have BB := BB_
  clear BB_
  have Xs := Xs_
  clear Xs_
  have Bs := Bs_
  clear Bs_
  have Xx := Xx_
  clear Xx_
  have Xy := Xy_
  clear Xy_
  have Xg := Xg_
  clear Xg_
  have Bg := Bg_
  clear Bg_
  clear hq
  have Xv := Xv_n
  clear Xv_n
  go_wp2_with fail
  refine (eqIntS_any Ay Av cy cv L1 L1 _ Xy.out.mem Xv.out.mem t1 t1).mono ?_
  rintro e w11 ⟨he, hq⟩
  rw [decide_eq_true rfl] at he
  subst he
  have AR_ := Lib.hid (AR.out.below hq)
  have AI_ := Lib.hid (AI.out.below hq)
  have BB_ := Lib.hid (BB.out.below hq)
  have Xs_ := Lib.hid (Xs.out.below hq)
  have Bs_ := Lib.hid (Bs.out.below hq)
  have Xx_ := Lib.hid (Xx.out.below hq)
  have Xy_ := Lib.hid (Xy.out.below hq)
  have Xg_ := Lib.hid (Xg.out.below hq)
  have Bg_ := Lib.hid (Bg.out.below hq)
  have Xv_ := Lib.hid (Xv.out.below hq)
  clear AR AI BB Xs Bs Xx Xy Xg Bg Xv
  have AR := AR_
  clear AR_
  have AI := AI_
  clear AI_
  have BB := BB_
  clear BB_
  have Xs := Xs_
  clear Xs_
  have Bs := Bs_
  clear Bs_
  have Xx := Xx_
  clear Xx_
  have Xy := Xy_
  clear Xy_
  have Xg := Xg_
  clear Xg_
  have Bg := Bg_
  clear Bg_
  have Xv := Xv_
  clear Xv_
  clear hq
  clear Xv
  go_wp2_with fail
  refine (markSpotSS_any _ _ Ax cx L0.length hsx 1 _ Xx.out hl0 (by rw [HTx.out]; exact ht0) (by omega) (by omega) (by have := Xx.out.sz; omega)).mono ?_
  rintro e w12 ⟨he, _, hlo, hhi⟩
  rw [HTx.out] at he
  subst he
  have hzs0 := AR.out.sz
  have AR_ := Lib.hid (AR.out.low hlo (by omega))
  have AI_ := Lib.hid (AI.out.low hlo (by omega))
  have BB_ := Lib.hid (BB.out.low hlo (by omega))
  have Xs_ := Lib.hid (Xs.out.low hlo (by omega))
  have Bs_ := Lib.hid (Bs.out.low hlo (by omega))
  have Xy_ := Lib.hid (Xy.out.high hlo.size hhi (by omega))
  have Xg_ := Lib.hid (Xg.out.high hlo.size hhi (by omega))
  have Bg_ := Lib.hid (Bg.out.high hhi (by omega))
  clear AR AI BB Xs Bs Xx Xy Xg Bg
  have AR := AR_
  clear AR_
  have AI := AI_
  clear AI_
  have BB := BB_
  clear BB_
  have Xs := Xs_
  clear Xs_
  have Bs := Bs_
  clear Bs_
  have Xy := Xy_
  clear Xy_
  have Xg := Xg_
  clear Xg_
  have Bg := Bg_
  clear Bg_
  clear hlo hhi
  go_wp2_with fail
  refine (markIntS_any _ Ay cy L1 (1 + 2 * (tot G : Int)) _ Xy.out.own t1 (by omega) (by omega)).mono ?_
  rintro e w13 ⟨rfl, hO, hg⟩
  clear hO
  have hrr : ∀ k, (Value.slice Ay L1.length cy).ownBlock = some k → _ ≤ k ∧ k < _ := fun k hk => ⟨(Xy.out.own.lt k hk).1, Xy.out.top k hk⟩
  have hlo := low_of_grown hg (by have := Xy.out.sz_; omega) (fun k hk => (hrr k hk).1)
  have hlz := Xy.out.sz_
  have AR_ := Lib.hid (AR.out.low hlo (by omega))
  have AI_ := Lib.hid (AI.out.low hlo (by omega))
  have BB_ := Lib.hid (BB.out.low hlo (by omega))
  have Xs_ := Lib.hid (Xs.out.low hlo (by omega))
  have Bs_ := Lib.hid (Bs.out.low hlo (by omega))
  have Xg_ := Lib.hid (Xg.out.grown hg (fun k hk => by have := hrr k hk; omega))
  have Bg_ := Lib.hid (Bg.out.grown hg (fun k hk => by have := hrr k hk; omega))
  clear AR AI BB Xs Bs Xy Xg Bg
  have AR := AR_
  clear AR_
  have AI := AI_
  clear AI_
  have BB := BB_
  clear BB_
  have Xs := Xs_
  clear Xs_
  have Bs := Bs_
  clear Bs_
  have Xg := Xg_
  clear Xg_
  have Bg := Bg_
  clear Bg_
  clear hlo hg hrr
  have i1 : ¬ (1 : Int) + 2 * (tot G : Int) + (L1.length : Int) < 0 := by omega
  have qg_0 := (Bg.out.blk.cell 0).trans (show _ = some (Value.int .i64 P) from rfl)
  have qg_1 := (Bg.out.blk.cell 1).trans (show _ = some (Value.int .i64 S.x) from rfl)
  have qg_2 := (Bg.out.blk.cell 2).trans (show _ = some (Value.int .i64 S.y) from rfl)
  have qg_3 := (Bg.out.blk.cell 3).trans (show _ = some (Value.slice Ag V.length cg) from rfl)
  have qlg := Bg.out.blk.lt
  have qs_0 := (Bs.out.blk.cell 0).trans (show _ = some (Value.int .i64 P) from rfl)
  have qs_1 := (Bs.out.blk.cell 1).trans (show _ = some (Value.int .i64 S.x) from rfl)
  have qs_2 := (Bs.out.blk.cell 2).trans (show _ = some (Value.int .i64 S.y) from rfl)
  have qs_3 := (Bs.out.blk.cell 3).trans (show _ = some (Value.slice As V.length cs) from rfl)
  have qls := Bs.out.blk.lt
  go_wp2_with fail
  refine (eqSheet_any P P S S Ag As cg cs V V _ Xg.out.mem Xs.out.mem hVl hVl).mono ?_
  rintro e w14 ⟨he, hq⟩
  rw [shEq_same] at he
  subst he
  clear qg_0 qg_1 qg_2 qg_3 qlg qs_0 qs_1 qs_2 qs_3 qls
  have AR_ := Lib.hid (AR.out.below hq)
  have AI_ := Lib.hid (AI.out.below hq)
  have BB_ := Lib.hid (BB.out.below hq)
  have Xs_ := Lib.hid (Xs.out.below hq)
  have Bs_ := Lib.hid (Bs.out.below hq)
  have Xg_ := Lib.hid (Xg.out.below hq)
  have Bg_ := Lib.hid (Bg.out.below hq)
  clear AR AI BB Xs Bs Xg Bg
  have AR := AR_
  clear AR_
  have AI := AI_
  clear AI_
  have BB := BB_
  clear BB_
  have Xs := Xs_
  clear Xs_
  have Bs := Bs_
  clear Bs_
  have Xg := Xg_
  clear Xg_
  have Bg := Bg_
  clear Bg_
  clear hq
  have qg_0 := (Bg.out.blk.cell 0).trans (show _ = some (Value.int .i64 P) from rfl)
  have qg_1 := (Bg.out.blk.cell 1).trans (show _ = some (Value.int .i64 S.x) from rfl)
  have qg_2 := (Bg.out.blk.cell 2).trans (show _ = some (Value.int .i64 S.y) from rfl)
  have qg_3 := (Bg.out.blk.cell 3).trans (show _ = some (Value.slice Ag V.length cg) from rfl)
  have qlg := Bg.out.blk.lt
  go_wp2_with fail
  refine (markSheet_any P S _ Ag cg V 1 _ Xg.out.own hVl (by omega) (by omega) (by have := Xg.out.sz_; omega)).mono ?_
  rintro e w15 ⟨rfl, hO, hg⟩
  clear qg_0 qg_1 qg_2 qg_3 qlg
  have hrr : ∀ k, (Value.slice Ag V.length cg).ownBlock = some k → _ ≤ k ∧ k < _ := fun k hk => ⟨(Xg.out.own.lt k hk).1, Xg.out.top k hk⟩
  have hlo := low_of_grown hg (by have := Xg.out.sz_; omega) (fun k hk => (hrr k hk).1)
  have Xg_m := Lib.hid (RO.mk hO Xg.out.top (Nat.le_trans Xg.out.sz_ hg.size))
  clear hO
  have AR_ := Lib.hid (AR.out.low hlo (by omega))
  have AI_ := Lib.hid (AI.out.low hlo (by omega))
  have BB_ := Lib.hid (BB.out.low hlo (by omega))
  have Xs_ := Lib.hid (Xs.out.low hlo (by omega))
  have Bs_ := Lib.hid (Bs.out.low hlo (by omega))
  have Bg_ := Lib.hid (Bg.out.grown hg (fun k hk => by have := hrr k hk; omega))
  clear AR AI BB Xs Bs Xg Bg
  have AR := AR_
  clear AR_
  have AI := AI_
  clear AI_
  have BB := BB_
  clear BB_
  have Xs := Xs_
  clear Xs_
  have Bs := Bs_
  clear Bs_
  have Bg := Bg_
  clear Bg_
  clear hlo hg hrr
  have Xm := Xg_m
  clear Xg_m
  have qg_0 := (Bg.out.blk.cell 0).trans (show _ = some (Value.int .i64 P) from rfl)
  have qg_1 := (Bg.out.blk.cell 1).trans (show _ = some (Value.int .i64 S.x) from rfl)
  have qg_2 := (Bg.out.blk.cell 2).trans (show _ = some (Value.int .i64 S.y) from rfl)
  have qg_3 := (Bg.out.blk.cell 3).trans (show _ = some (Value.slice Ag V.length cg) from rfl)
  have qlg := Bg.out.blk.lt
  go_wp2_with fail
  refine (heldSheet_any P S Ag V.length cg 1 _ Xm.out.mem hVl (by omega) (by omega)).mono ?_
  rintro e w16 ⟨rfl, hq⟩
  clear qg_0 qg_1 qg_2 qg_3 qlg
  have AR_ := Lib.hid (AR.out.below hq)
  have AI_ := Lib.hid (AI.out.below hq)
  have BB_ := Lib.hid (BB.out.below hq)
  have Xs_ := Lib.hid (Xs.out.below hq)
  have Bs_ := Lib.hid (Bs.out.below hq)
  have Bg_ := Lib.hid (Bg.out.below hq)
  have Xm_ := Lib.hid (Xm.out.below hq)
  clear AR AI BB Xs Bs Bg Xm
  have AR := AR_
  clear AR_
  have AI := AI_
  clear AI_
  have BB := BB_
  clear BB_
  have Xs := Xs_
  clear Xs_
  have Bs := Bs_
  clear Bs_
  have Bg := Bg_
  clear Bg_
  have Xm := Xm_
  clear Xm_
  clear hq
  have i2 : ¬ (1 : Int) + 3 * (V.length : Int) < 0 := by omega
  go_wp2_with fail
  refine (toSpotSS_any A0 c0 L0 _ AR.out.grid hl0 HR1.out).mono ?_
  rintro e w17 ⟨Ad, cd, hsd, rfl, hT, hO, hq⟩
  have HTd := Lib.hid (hT.trans HG.out)
  have HLd := Lib.hid (show hsd.length = L0.length by rw [← lns_len hsd, hT, lns_len])
  have HXd := Lib.hid (show ∀ (k : Nat) (h : Hdr Sp), hsd[k]? = some h → h.L.length ≤ 1048576 ∧ h.L.length ≤ h.c from fun k h hh => by have := tot_row (lns_at hh); rw [hT, HG.out] at this; exact ⟨by omega, hO.cap k h hh⟩)
  have Xd_n := Lib.hid hO
  have hzd := hq.size
  clear hT hO
  have AR_ := Lib.hid (AR.out.below hq)
  have AI_ := Lib.hid (AI.out.below hq)
  have BB_ := Lib.hid (BB.out.below hq)
  have Xs_ := Lib.hid (Xs.out.below hq)
  have Bs_ := Lib.hid (Bs.out.below hq)
  have Bg_ := Lib.hid (Bg.out.below hq)
  have Xm_ := Lib.hid (Xm.out.below hq)
  clear AR AI BB Xs Bs Bg Xm
  have AR := AR_
  clear AR_
  have AI := AI_
  clear AI_
  have BB := BB_
  clear BB_
  have Xs := Xs_
  clear Xs_
  have Bs := Bs_
  clear Bs_
  have Bg := Bg_
  clear Bg_
  have Xm := Xm_
  clear Xm_
  clear hq
  have Xd := Xd_n
  clear Xd_n
  go_wp2_with fail
  refine (toIntS_any _ _ L1 _ AI.out.mem t1).mono ?_
  rintro e w18 ⟨Ae, ce, rfl, hO, hq⟩
  have Xe_n := Lib.hid (RO.mk_ hO)
  have hze := hq.size
  clear hO
  have AR_ := Lib.hid (AR.out.below hq)
  have AI_ := Lib.hid (AI.out.below hq)
  have BB_ := Lib.hid (BB.out.below hq)
  have Xs_ := Lib.hid (Xs.out.below hq)
  have Bs_ := Lib.hid (Bs.out.below hq)
  have Bg_ := Lib.hid (Bg.out.below hq)
  have Xm_ := Lib.hid (Xm.out.below hq)
  have Xd_ := Lib.hid (Xd.out.below hq)
  clear AR AI BB Xs Bs Bg Xm Xd
  have AR := AR_
  clear AR_
  have AI := AI_
  clear AI_
  have BB := BB_
  clear BB_
  have Xs := Xs_
  clear Xs_
  have Bs := Bs_
  clear Bs_
  have Bg := Bg_
  clear Bg_
  have Xm := Xm_
  clear Xm_
  have Xd := Xd_
  clear Xd_
  clear hq
  have Xe := Xe_n
  clear Xe_n
  go_wp2_with fail
  have hct := impl_SheetOf_any Ad cd hsd Ae ce L1 a2 _ Xd.out.grid Xe.out.mem (by rw [HLd.out]; exact hl0) t1 HXd.out
  rw [HTd.out, HLd.out, HP.out, HS.out, HVV.out, HOK.out] at hct
  refine hct.mono ?_
  clear hct
  rintro e w19 ⟨Ah, ch, rfl, hO, hq⟩
  have Xh_n := Lib.hid (RO.mk_ hO)
  have hzh := hq.size
  clear hO
  have AR_ := Lib.hid (AR.out.below hq)
  have AI_ := Lib.hid (AI.out.below hq)
  have BB_ := Lib.hid (BB.out.below hq)
  have Xs_ := Lib.hid (Xs.out.below hq)
  have Bs_ := Lib.hid (Bs.out.below hq)
  have Bg_ := Lib.hid (Bg.out.below hq)
  have Xm_ := Lib.hid (Xm.out.below hq)
  have Xd_ := Lib.hid (Xd.out.below hq)
  have Xe_ := Lib.hid (Xe.out.below hq)
  clear AR AI BB Xs Bs Bg Xm Xd Xe
  have AR := AR_
  clear AR_
  have AI := AI_
  clear AI_
  have BB := BB_
  clear BB_
  have Xs := Xs_
  clear Xs_
  have Bs := Bs_
  clear Bs_
  have Bg := Bg_
  clear Bg_
  have Xm := Xm_
  clear Xm_
  have Xd := Xd_
  clear Xd_
  have Xe := Xe_
  clear Xe_
  clear hq
  have Xh := Xh_n
  clear Xh_n
  have Bh_n := Lib.hid (Bx.mk (Blk.new w19 #[.int .i64 P, .int .i64 S.x, .int .i64 S.y, .slice Ah V.length ch] 29))
  have hqa := below_alloc w19 (.cells #[.int .i64 P, .int .i64 S.x, .int .i64 S.y, .slice Ah V.length ch] 29)
  have hzbh := hqa.size
  have hblh : w19.heap.size < (w19.alloc (.cells #[.int .i64 P, .int .i64 S.x, .int .i64 S.y, .slice Ah V.length ch] 29)).heap.size := by simp
  have AR_ := Lib.hid (AR.out.below hqa)
  have AI_ := Lib.hid (AI.out.below hqa)
  have BB_ := Lib.hid (BB.out.below hqa)
  have Xs_ := Lib.hid (Xs.out.below hqa)
  have Bs_ := Lib.hid (Bs.out.below hqa)
  have Bg_ := Lib.hid (Bg.out.below hqa)
  have Xm_ := Lib.hid (Xm.out.below hqa)
  have Xd_ := Lib.hid (Xd.out.below hqa)
  have Xe_ := Lib.hid (Xe.out.below hqa)
  have Xh_ := Lib.hid (Xh.out.below hqa)
  clear AR AI BB Xs Bs Bg Xm Xd Xe Xh
  have AR := AR_
  clear AR_
  have AI := AI_
  clear AI_
  have BB := BB_
  clear BB_
  have Xs := Xs_
  clear Xs_
  have Bs := Bs_
  clear Bs_
  have Bg := Bg_
  clear Bg_
  have Xm := Xm_
  clear Xm_
  have Xd := Xd_
  clear Xd_
  have Xe := Xe_
  clear Xe_
  have Xh := Xh_
  clear Xh_
  clear hqa
  have Bh := Bh_n
  clear Bh_n
  have qh_0 := (Bh.out.blk.cell 0).trans (show _ = some (Value.int .i64 P) from rfl)
  have qh_1 := (Bh.out.blk.cell 1).trans (show _ = some (Value.int .i64 S.x) from rfl)
  have qh_2 := (Bh.out.blk.cell 2).trans (show _ = some (Value.int .i64 S.y) from rfl)
  have qh_3 := (Bh.out.blk.cell 3).trans (show _ = some (Value.slice Ah V.length ch) from rfl)
  have qlh := Bh.out.blk.lt
  have qs_0 := (Bs.out.blk.cell 0).trans (show _ = some (Value.int .i64 P) from rfl)
  have qs_1 := (Bs.out.blk.cell 1).trans (show _ = some (Value.int .i64 S.x) from rfl)
  have qs_2 := (Bs.out.blk.cell 2).trans (show _ = some (Value.int .i64 S.y) from rfl)
  have qs_3 := (Bs.out.blk.cell 3).trans (show _ = some (Value.slice As V.length cs) from rfl)
  have qls := Bs.out.blk.lt
  go_wp2_with fail
  refine (eqSheet_any P P S S Ah As ch cs V V _ Xh.out.mem Xs.out.mem hVl hVl).mono ?_
  rintro e w20 ⟨he, hq⟩
  rw [shEq_same] at he
  subst he
  clear qh_0 qh_1 qh_2 qh_3 qlh qs_0 qs_1 qs_2 qs_3 qls
  have AR_ := Lib.hid (AR.out.below hq)
  have AI_ := Lib.hid (AI.out.below hq)
  have BB_ := Lib.hid (BB.out.below hq)
  have Xs_ := Lib.hid (Xs.out.below hq)
  have Bs_ := Lib.hid (Bs.out.below hq)
  have Bg_ := Lib.hid (Bg.out.below hq)
  have Xm_ := Lib.hid (Xm.out.below hq)
  have Xd_ := Lib.hid (Xd.out.below hq)
  have Xe_ := Lib.hid (Xe.out.below hq)
  have Xh_ := Lib.hid (Xh.out.below hq)
  have Bh_ := Lib.hid (Bh.out.below hq)
  clear AR AI BB Xs Bs Bg Xm Xd Xe Xh Bh
  have AR := AR_
  clear AR_
  have AI := AI_
  clear AI_
  have BB := BB_
  clear BB_
  have Xs := Xs_
  clear Xs_
  have Bs := Bs_
  clear Bs_
  have Bg := Bg_
  clear Bg_
  have Xm := Xm_
  clear Xm_
  have Xd := Xd_
  clear Xd_
  have Xe := Xe_
  clear Xe_
  have Xh := Xh_
  clear Xh_
  have Bh := Bh_
  clear Bh_
  clear hq
  have qg_0 := (Bg.out.blk.cell 0).trans (show _ = some (Value.int .i64 P) from rfl)
  have qg_1 := (Bg.out.blk.cell 1).trans (show _ = some (Value.int .i64 S.x) from rfl)
  have qg_2 := (Bg.out.blk.cell 2).trans (show _ = some (Value.int .i64 S.y) from rfl)
  have qg_3 := (Bg.out.blk.cell 3).trans (show _ = some (Value.slice Ag V.length cg) from rfl)
  have qlg := Bg.out.blk.lt
  go_wp2_with fail
  refine (heldSheet_any P S Ag V.length cg 1 _ Xm.out.mem hVl (by omega) (by omega)).mono ?_
  rintro e w21 ⟨rfl, hq⟩
  clear qg_0 qg_1 qg_2 qg_3 qlg
  have AR_ := Lib.hid (AR.out.below hq)
  have AI_ := Lib.hid (AI.out.below hq)
  have BB_ := Lib.hid (BB.out.below hq)
  have Xs_ := Lib.hid (Xs.out.below hq)
  have Bs_ := Lib.hid (Bs.out.below hq)
  have Bg_ := Lib.hid (Bg.out.below hq)
  have Xm_ := Lib.hid (Xm.out.below hq)
  have Xd_ := Lib.hid (Xd.out.below hq)
  have Xe_ := Lib.hid (Xe.out.below hq)
  have Xh_ := Lib.hid (Xh.out.below hq)
  have Bh_ := Lib.hid (Bh.out.below hq)
  clear AR AI BB Xs Bs Bg Xm Xd Xe Xh Bh
  have AR := AR_
  clear AR_
  have AI := AI_
  clear AI_
  have BB := BB_
  clear BB_
  have Xs := Xs_
  clear Xs_
  have Bs := Bs_
  clear Bs_
  have Bg := Bg_
  clear Bg_
  have Xm := Xm_
  clear Xm_
  have Xd := Xd_
  clear Xd_
  have Xe := Xe_
  clear Xe_
  have Xh := Xh_
  clear Xh_
  have Bh := Bh_
  clear Bh_
  clear hq
  go_wp2_with fail
  go_ret
  exact ⟨rfl, BB.out.bel⟩

end Go.Proofs.Ytbgbcajcajaocaa
