/-
  FnPlaces: the walk.
-/
import Derived.Test.YtdipmjflgjlfeaaLwt
import Derived.Test.YtdipmjflgjlfeaaDro
import Derived.Test.YtdipmjflgjlfeaaFpp
import Derived.Deep.DeepCutAuto
import Derived.Deep.RegionHeld3
import Derived.Lib.QuietBelow
namespace Go.Proofs.Ytdipmjflgjlfeaa
open Go.RowKit Go.Sort

theorem gpV_len (L : List Sp) (O : List Int) (M : List Sp) (m : Int) : (gpV L O M m).length ≤ M.length := by
  unfold gpV
  split
  · have := upto_len (hsprs L O M) m M.length
    simpa [hsprs] using this
  · simp
theorem shV_lenP (O : List Int) (b : Int) : (shV O b).length ≤ O.length := by
  unfold shV
  split
  · rw [shiftd_len]; omega
  · simp
theorem below_drew {w w' : World} (h : Below w.drew.heap.size w.drew w') : Below w.heap.size w w' := ⟨h.os, h.tape, h.output, h.size, h.block⟩
theorem below_next {w w' w'' : World} (h : Below w.heap.size w w') (k : Below w'.heap.size w' w'') : Below w.heap.size w w'' := h.trans (k.mono h.size)
theorem impl_HeardTimesZ (A : Option Addr) (c : Nat) (L : List Sp) (B : Option Addr) (d : Nat) (a : Sp) (w : World) (hm : Mem w A (spots L)) (hn : Mem w B (ints (zeros L.length))) (hl : L.length ≤ 1048576) : Calls Try.prog 38 #[.slice A L.length c, .slice B L.length d, .agg #[.int .i64 a.x, .int .i64 a.y]] w
    (RetInts w (htV L (zeros L.length) a) (entOk L (zeros L.length) && isSp a)) := by
  have := impl_HeardTimes_any A c L B d (zeros L.length) a w hm hn hl (by rw [zeros_len]; exact hl)
  rwa [zeros_len] at this
theorem spec_HeardTimesZ (A : Option Addr) (c : Nat) (L : List Sp) (B : Option Addr) (d : Nat) (a : Sp) (w : World) (hm : Mem w A (spots L)) (hn : Mem w B (ints (zeros L.length))) (hl : L.length ≤ 1048576) : Calls Try.prog 39 #[.slice A L.length c, .slice B L.length d, .agg #[.int .i64 a.x, .int .i64 a.y]] w
    (RetInts w (htV L (zeros L.length) a) (entOk L (zeros L.length) && isSp a)) := by
  have := spec_HeardTimes_any A c L B d (zeros L.length) a w hm hn hl (by rw [zeros_len]; exact hl)
  rwa [zeros_len] at this

set_option maxRecDepth 100000 in
set_option maxHeartbeats 4000000 in
theorem FnPlaces_walk (A0 : Option Addr) (c0 : Nat) (L0 : List Int) (A1 : Option Addr) (c1 : Nat) (L1 : List Int) (W : World) (m0 : Mem W A0 (L0.flatMap fun n => [Value.int .u8 n])) (k0 : ∀ x ∈ L0, okByte x) (l0 : L0.length ≤ c0) (n0 : c0 ≤ maxLen)
    (m1 : Mem W A1 (L1.flatMap fun n => [Value.int .u8 n])) (k1 : ∀ x ∈ L1, okByte x) (l1 : L1.length ≤ c1) (n1 : c1 ≤ maxLen) :
    Calls Try.prog 6 #[.slice A0 L0.length c0, .slice A1 L1.length c1] W fun e W' => e = .returned (.bool true) ∧ Below W.heap.size W W' := by
  have K0 := Lib.hid (code_of m0 k0 l0 n0)
  have K1 := Lib.hid (code_of m1 k1 l1 n1)
  unfold maxLen at n0 n1
  have q0 : L0.length ≤ 9223372036854775807 := by omega
  have BB := Lib.hid (Below.refl W.heap.size W)
  clear m0 k0 m1 k1
  clear l0 n0 l1 n1
  by_cases hbig : 1048576 < wrap64 (↑L0.length + ↑L1.length)
  · go_enter Try.func6, Try.ntmps6
    go_wp2
    go_ret
    exact ⟨rfl, BB.out⟩
  go_enter Try.func6, Try.ntmps6
  go_wp2_with fail
  clear hbig
  refine (drawWorstListener_any _ _ _ _ K0.out).mono ?_
  rintro e w1 ⟨A', c', L, B', d', O, C', f', M, rfl, ⟨ho, hl, hL⟩, hm, ⟨hol, hoo⟩, ⟨ho2, hlM, hL2⟩, hq⟩
  have ML_n := Lib.hid (Mem.of_own ho)
  have MO_n := Lib.hid (hm.mem)
  have MM_n := Lib.hid (Mem.of_own ho2)
  have BB_ := Below.next hq BB.out BB.out.size
  clear BB hq
  have BB := Lib.hid BB_
  clear BB_
  have ML := ML_n
  clear ML_n
  have MO := MO_n
  clear MO_n
  have MM := MM_n
  clear MM_n
  clear hL hL2 hoo ho hm ho2
  obtain ⟨wa, h_wa⟩ : ∃ v, wl1 L O M = v := ⟨_, rfl⟩
  have HWA := Lib.hid h_wa
  clear h_wa
  obtain ⟨wb, h_wb⟩ : ∃ v, wl2 L O M = v := ⟨_, rfl⟩
  have HWB := Lib.hid h_wb
  clear h_wb
  obtain ⟨ok, h_ok⟩ : ∃ v, (entOk L O && srcOk M) = v := ⟨_, rfl⟩
  have HK := Lib.hid h_ok
  clear h_ok
  go_wp2_with fail
  refine (impl_WorstListener_any A' c' L B' d' O C' f' M _ ML.out MO.out MM.out (by omega) (by omega) (by omega)).mono ?_
  rintro e w2 ⟨he, hq⟩
  rw [HWA.out, HWB.out, HK.out] at he
  subst he
  have ML_ := ML.out.below hq
  have MO_ := MO.out.below hq
  have MM_ := MM.out.below hq
  have BB_ := Below.next hq BB.out BB.out.size
  clear ML MO MM BB hq
  have ML := Lib.hid ML_
  have MO := Lib.hid MO_
  have MM := Lib.hid MM_
  have BB := Lib.hid BB_
  clear ML_ MO_ MM_ BB_
  go_wp2_with fail
  refine (spec_WorstListener_any A' c' L B' d' O C' f' M _ ML.out MO.out MM.out (by omega) (by omega) (by omega)).mono ?_
  rintro e w3 ⟨he, hq⟩
  rw [HWA.out, HWB.out, HK.out] at he
  subst he
  have ML_ := ML.out.below hq
  have MO_ := MO.out.below hq
  have MM_ := MM.out.below hq
  have BB_ := Below.next hq BB.out BB.out.size
  clear ML MO MM BB hq
  have ML := Lib.hid ML_
  have MO := Lib.hid MO_
  have MM := Lib.hid MM_
  have BB := Lib.hid BB_
  clear ML_ MO_ MM_ BB_
  go_wp2_with fail
  refine (drawGoodPlaces_any _ _ _ _ (K1.out.below BB.out)).mono ?_
  rintro e w4 ⟨A2, c2, P, B2, d2, Q, C2, f2, R, m, rfl, ⟨ho, hlP, hL⟩, hm, ⟨hlQ, hoo⟩, ⟨ho2, hlR, hL2⟩, m0, m1, hq⟩
  have MP_n := Lib.hid (Mem.of_own ho)
  have MQ_n := Lib.hid (hm.mem)
  have MR_n := Lib.hid (Mem.of_own ho2)
  have ML_ := ML.out.below hq
  have MO_ := MO.out.below hq
  have MM_ := MM.out.below hq
  have BB_ := Below.next hq BB.out BB.out.size
  clear ML MO MM BB hq
  have ML := Lib.hid ML_
  have MO := Lib.hid MO_
  have MM := Lib.hid MM_
  have BB := Lib.hid BB_
  clear ML_ MO_ MM_ BB_
  have MP := MP_n
  clear MP_n
  have MQ := MQ_n
  clear MQ_n
  have MR := MR_n
  clear MR_n
  clear hL hL2 hoo ho hm ho2
  obtain ⟨V, h_V⟩ : ∃ v, gpV P Q R m = v := ⟨_, rfl⟩
  have HV := Lib.hid h_V
  clear h_V
  obtain ⟨ok1, h_ok1⟩ : ∃ v, ((entOk P Q && srcOk R) && inR m 0 4000) = v := ⟨_, rfl⟩
  have HK1 := Lib.hid h_ok1
  clear h_ok1
  have hVb : V.length ≤ 1048576 := by rw [← HV.out]; exact Nat.le_trans (gpV_len _ _ _ _) (by omega)
  go_wp2_with fail
  refine (impl_GoodPlaces_any A2 c2 P B2 d2 Q C2 f2 R m _ MP.out MQ.out MR.out (by omega) (by omega) (by omega)).mono ?_
  rintro e w5 ⟨VMA, VMc, he, ho, hq⟩
  rw [HV.out, HK1.out] at he
  rw [HV.out] at ho
  subst he
  have VM_n := Lib.hid (Mem.of_own ho)
  clear ho
  have ML_ := ML.out.below hq
  have MO_ := MO.out.below hq
  have MM_ := MM.out.below hq
  have MP_ := MP.out.below hq
  have MQ_ := MQ.out.below hq
  have MR_ := MR.out.below hq
  have BB_ := Below.next hq BB.out BB.out.size
  clear ML MO MM MP MQ MR BB hq
  have ML := Lib.hid ML_
  have MO := Lib.hid MO_
  have MM := Lib.hid MM_
  have MP := Lib.hid MP_
  have MQ := Lib.hid MQ_
  have MR := Lib.hid MR_
  have BB := Lib.hid BB_
  clear ML_ MO_ MM_ MP_ MQ_ MR_ BB_
  have VM := VM_n
  clear VM_n
  go_wp2_with fail
  refine (spec_GoodPlaces_any A2 c2 P B2 d2 Q C2 f2 R m _ MP.out MQ.out MR.out (by omega) (by omega) (by omega)).mono ?_
  rintro e w6 ⟨VNA, VNc, he, ho, hq⟩
  rw [HV.out, HK1.out] at he
  rw [HV.out] at ho
  subst he
  have VN_n := Lib.hid (Mem.of_own ho)
  clear ho
  have ML_ := ML.out.below hq
  have MO_ := MO.out.below hq
  have MM_ := MM.out.below hq
  have MP_ := MP.out.below hq
  have MQ_ := MQ.out.below hq
  have MR_ := MR.out.below hq
  have VM_ := VM.out.below hq
  have BB_ := Below.next hq BB.out BB.out.size
  clear ML MO MM MP MQ MR VM BB hq
  have ML := Lib.hid ML_
  have MO := Lib.hid MO_
  have MM := Lib.hid MM_
  have MP := Lib.hid MP_
  have MQ := Lib.hid MQ_
  have MR := Lib.hid MR_
  have VM := Lib.hid VM_
  have BB := Lib.hid BB_
  clear ML_ MO_ MM_ MP_ MQ_ MR_ VM_ BB_
  have VN := VN_n
  clear VN_n
  go_wp2_with fail
  refine (drawBestConductor_any _ _ _ _ (K1.out.below BB.out)).mono ?_
  rintro e w7 ⟨A3, c3, D, B3, d3, E, x3, y3, rfl, ⟨ho, hlD, hL⟩, ⟨ho2, hlE, hL2⟩, hsm, hq⟩
  have MD_n := Lib.hid (Mem.of_own ho)
  have ME_n := Lib.hid (Mem.of_own ho2)
  have ML_ := ML.out.below hq
  have MO_ := MO.out.below hq
  have MM_ := MM.out.below hq
  have MP_ := MP.out.below hq
  have MQ_ := MQ.out.below hq
  have MR_ := MR.out.below hq
  have VM_ := VM.out.below hq
  have VN_ := VN.out.below hq
  have BB_ := Below.next hq BB.out BB.out.size
  clear ML MO MM MP MQ MR VM VN BB hq
  have ML := Lib.hid ML_
  have MO := Lib.hid MO_
  have MM := Lib.hid MM_
  have MP := Lib.hid MP_
  have MQ := Lib.hid MQ_
  have MR := Lib.hid MR_
  have VM := Lib.hid VM_
  have VN := Lib.hid VN_
  have BB := Lib.hid BB_
  clear ML_ MO_ MM_ MP_ MQ_ MR_ VM_ VN_ BB_
  have MD := MD_n
  clear MD_n
  have ME := ME_n
  clear ME_n
  clear hL hL2 ho ho2 hsm
  have hq : Below w7.heap.size w7 (w7.alloc (.cells #[.int .i64 x3, .int .i64 y3] 25)) := (Below.refl _ _).alloc (Nat.le_refl _) _
  have ML_ := ML.out.below hq
  have MO_ := MO.out.below hq
  have MM_ := MM.out.below hq
  have MP_ := MP.out.below hq
  have MQ_ := MQ.out.below hq
  have MR_ := MR.out.below hq
  have VM_ := VM.out.below hq
  have VN_ := VN.out.below hq
  have MD_ := MD.out.below hq
  have ME_ := ME.out.below hq
  have BB_ := Below.next hq BB.out BB.out.size
  clear ML MO MM MP MQ MR VM VN MD ME BB hq
  have ML := Lib.hid ML_
  have MO := Lib.hid MO_
  have MM := Lib.hid MM_
  have MP := Lib.hid MP_
  have MQ := Lib.hid MQ_
  have MR := Lib.hid MR_
  have VM := Lib.hid VM_
  have VN := Lib.hid VN_
  have MD := Lib.hid MD_
  have ME := Lib.hid ME_
  have BB := Lib.hid BB_
  clear ML_ MO_ MM_ MP_ MQ_ MR_ VM_ VN_ MD_ ME_ BB_
  have p5 : (w7.alloc (.cells #[.int .i64 x3, .int .i64 y3] 25)).cell? ⟨w7.heap.size, 0, none⟩ = some (.int .i64 x3) := by simp [go_sem]
  have p6 : (w7.alloc (.cells #[.int .i64 x3, .int .i64 y3] 25)).cell? ⟨w7.heap.size, 1, none⟩ = some (.int .i64 y3) := by simp [go_sem]
  obtain ⟨ba, h_ba⟩ : ∃ v, bc1 D E ⟨x3, y3⟩ = v := ⟨_, rfl⟩
  have HBA := Lib.hid h_ba
  clear h_ba
  obtain ⟨bv, h_bv⟩ : ∃ v, bc2 D E ⟨x3, y3⟩ = v := ⟨_, rfl⟩
  have HBV := Lib.hid h_bv
  clear h_bv
  obtain ⟨okb, h_okb⟩ : ∃ v, bcOk D E ⟨x3, y3⟩ = v := ⟨_, rfl⟩
  have HKB := Lib.hid h_okb
  clear h_okb
  go_wp2_with fail
  refine (impl_BestConductor_any A3 c3 D B3 d3 E ⟨x3, y3⟩ _ MD.out ME.out (by omega) (by omega)).mono ?_
  rintro e w8 ⟨he, hq⟩
  rw [HBA.out, HBV.out, HKB.out] at he
  subst he
  have p5_ := keep1 hq p5
  have p6_ := keep1 hq p6
  have ML_ := ML.out.below hq
  have MO_ := MO.out.below hq
  have MM_ := MM.out.below hq
  have MP_ := MP.out.below hq
  have MQ_ := MQ.out.below hq
  have MR_ := MR.out.below hq
  have VM_ := VM.out.below hq
  have VN_ := VN.out.below hq
  have MD_ := MD.out.below hq
  have ME_ := ME.out.below hq
  have BB_ := Below.next hq BB.out BB.out.size
  clear p5 p6 ML MO MM MP MQ MR VM VN MD ME BB hq
  have p5 := p5_
  have p6 := p6_
  have ML := Lib.hid ML_
  have MO := Lib.hid MO_
  have MM := Lib.hid MM_
  have MP := Lib.hid MP_
  have MQ := Lib.hid MQ_
  have MR := Lib.hid MR_
  have VM := Lib.hid VM_
  have VN := Lib.hid VN_
  have MD := Lib.hid MD_
  have ME := Lib.hid ME_
  have BB := Lib.hid BB_
  clear p5_ p6_ ML_ MO_ MM_ MP_ MQ_ MR_ VM_ VN_ MD_ ME_ BB_
  go_wp2_with fail
  refine (spec_BestConductor_any A3 c3 D B3 d3 E ⟨x3, y3⟩ _ MD.out ME.out (by omega) (by omega)).mono ?_
  rintro e w9 ⟨he, hq⟩
  rw [HBA.out, HBV.out, HKB.out] at he
  subst he
  have p5_ := keep1 hq p5
  have p6_ := keep1 hq p6
  have ML_ := ML.out.below hq
  have MO_ := MO.out.below hq
  have MM_ := MM.out.below hq
  have MP_ := MP.out.below hq
  have MQ_ := MQ.out.below hq
  have MR_ := MR.out.below hq
  have VM_ := VM.out.below hq
  have VN_ := VN.out.below hq
  have MD_ := MD.out.below hq
  have ME_ := ME.out.below hq
  have BB_ := Below.next hq BB.out BB.out.size
  clear p5 p6 ML MO MM MP MQ MR VM VN MD ME BB hq
  have p5 := p5_
  have p6 := p6_
  have ML := Lib.hid ML_
  have MO := Lib.hid MO_
  have MM := Lib.hid MM_
  have MP := Lib.hid MP_
  have MQ := Lib.hid MQ_
  have MR := Lib.hid MR_
  have VM := Lib.hid VM_
  have VN := Lib.hid VN_
  have MD := Lib.hid MD_
  have ME := Lib.hid ME_
  have BB := Lib.hid BB_
  clear p5_ p6_ ML_ MO_ MM_ MP_ MQ_ MR_ VM_ VN_ MD_ ME_ BB_
  go_wp2_with fail
  refine (drawEntryTimes_any _ _ _ _ (K1.out.below BB.out)).mono ?_
  rintro e w10 ⟨A4, c4, U, n, B4, d4, X, rfl, ho, hlU, n0, n1, hm, ⟨hlX, hoo⟩, hq⟩
  have MU_n := Lib.hid (Mem.of_own ho)
  have MX_n := Lib.hid (hm.mem)
  have p5_ := keep1 hq p5
  have p6_ := keep1 hq p6
  have ML_ := ML.out.below hq
  have MO_ := MO.out.below hq
  have MM_ := MM.out.below hq
  have MP_ := MP.out.below hq
  have MQ_ := MQ.out.below hq
  have MR_ := MR.out.below hq
  have VM_ := VM.out.below hq
  have VN_ := VN.out.below hq
  have MD_ := MD.out.below hq
  have ME_ := ME.out.below hq
  have BB_ := Below.next hq BB.out BB.out.size
  clear p5 p6 ML MO MM MP MQ MR VM VN MD ME BB hq
  have p5 := p5_
  have p6 := p6_
  have ML := Lib.hid ML_
  have MO := Lib.hid MO_
  have MM := Lib.hid MM_
  have MP := Lib.hid MP_
  have MQ := Lib.hid MQ_
  have MR := Lib.hid MR_
  have VM := Lib.hid VM_
  have VN := Lib.hid VN_
  have MD := Lib.hid MD_
  have ME := Lib.hid ME_
  have BB := Lib.hid BB_
  clear p5_ p6_ ML_ MO_ MM_ MP_ MQ_ MR_ VM_ VN_ MD_ ME_ BB_
  have MU := MU_n
  clear MU_n
  have MX := MX_n
  clear MX_n
  clear hoo ho hm
  obtain ⟨T, h_T⟩ : ∃ v, etV U n X = v := ⟨_, rfl⟩
  have HT := Lib.hid h_T
  clear h_T
  obtain ⟨okt, h_okt⟩ : ∃ v, etOk U n X = v := ⟨_, rfl⟩
  have HKT := Lib.hid h_okt
  clear h_okt
  have hTb : T.length ≤ 1048576 := by rw [← HT.out]; exact Nat.le_trans (etV_le _ _ _) (by omega)
  go_wp2_with fail
  refine (impl_EntryTimes_any A4 c4 U n B4 d4 X _ MU.out MX.out (by omega) (by omega)).mono ?_
  rintro e w11 ⟨TMA, TMc, he, ho, hq⟩
  rw [HT.out, HKT.out] at he
  rw [HT.out] at ho
  subst he
  have TM_n := Lib.hid (Mem.of_own ho)
  clear ho
  have p5_ := keep1 hq p5
  have p6_ := keep1 hq p6
  have ML_ := ML.out.below hq
  have MO_ := MO.out.below hq
  have MM_ := MM.out.below hq
  have MP_ := MP.out.below hq
  have MQ_ := MQ.out.below hq
  have MR_ := MR.out.below hq
  have VM_ := VM.out.below hq
  have VN_ := VN.out.below hq
  have MD_ := MD.out.below hq
  have ME_ := ME.out.below hq
  have MU_ := MU.out.below hq
  have MX_ := MX.out.below hq
  have BB_ := Below.next hq BB.out BB.out.size
  clear p5 p6 ML MO MM MP MQ MR VM VN MD ME MU MX BB hq
  have p5 := p5_
  have p6 := p6_
  have ML := Lib.hid ML_
  have MO := Lib.hid MO_
  have MM := Lib.hid MM_
  have MP := Lib.hid MP_
  have MQ := Lib.hid MQ_
  have MR := Lib.hid MR_
  have VM := Lib.hid VM_
  have VN := Lib.hid VN_
  have MD := Lib.hid MD_
  have ME := Lib.hid ME_
  have MU := Lib.hid MU_
  have MX := Lib.hid MX_
  have BB := Lib.hid BB_
  clear p5_ p6_ ML_ MO_ MM_ MP_ MQ_ MR_ VM_ VN_ MD_ ME_ MU_ MX_ BB_
  have TM := TM_n
  clear TM_n
  go_wp2_with fail
  refine (spec_EntryTimes_any A4 c4 U n B4 d4 X _ MU.out MX.out (by omega) (by omega)).mono ?_
  rintro e w12 ⟨TNA, TNc, he, ho, hq⟩
  rw [HT.out, HKT.out] at he
  rw [HT.out] at ho
  subst he
  have TN_n := Lib.hid (Mem.of_own ho)
  clear ho
  have p5_ := keep1 hq p5
  have p6_ := keep1 hq p6
  have ML_ := ML.out.below hq
  have MO_ := MO.out.below hq
  have MM_ := MM.out.below hq
  have MP_ := MP.out.below hq
  have MQ_ := MQ.out.below hq
  have MR_ := MR.out.below hq
  have VM_ := VM.out.below hq
  have VN_ := VN.out.below hq
  have MD_ := MD.out.below hq
  have ME_ := ME.out.below hq
  have MU_ := MU.out.below hq
  have MX_ := MX.out.below hq
  have TM_ := TM.out.below hq
  have BB_ := Below.next hq BB.out BB.out.size
  clear p5 p6 ML MO MM MP MQ MR VM VN MD ME MU MX TM BB hq
  have p5 := p5_
  have p6 := p6_
  have ML := Lib.hid ML_
  have MO := Lib.hid MO_
  have MM := Lib.hid MM_
  have MP := Lib.hid MP_
  have MQ := Lib.hid MQ_
  have MR := Lib.hid MR_
  have VM := Lib.hid VM_
  have VN := Lib.hid VN_
  have MD := Lib.hid MD_
  have ME := Lib.hid ME_
  have MU := Lib.hid MU_
  have MX := Lib.hid MX_
  have TM := Lib.hid TM_
  have BB := Lib.hid BB_
  clear p5_ p6_ ML_ MO_ MM_ MP_ MQ_ MR_ VM_ VN_ MD_ ME_ MU_ MX_ TM_ BB_
  have TN := TN_n
  clear TN_n
  go_wp2_with fail
  refine (drawShiftOffsets_any _ _ _ _ (K1.out.below BB.out)).mono ?_
  rintro e w13 ⟨B5, d5, Y, yb, rfl, hm, ⟨hlY, hoo⟩, y0, y1, hq⟩
  have MY_n := Lib.hid (hm.mem)
  have p5_ := keep1 hq p5
  have p6_ := keep1 hq p6
  have ML_ := ML.out.below hq
  have MO_ := MO.out.below hq
  have MM_ := MM.out.below hq
  have MP_ := MP.out.below hq
  have MQ_ := MQ.out.below hq
  have MR_ := MR.out.below hq
  have VM_ := VM.out.below hq
  have VN_ := VN.out.below hq
  have MD_ := MD.out.below hq
  have ME_ := ME.out.below hq
  have MU_ := MU.out.below hq
  have MX_ := MX.out.below hq
  have TM_ := TM.out.below hq
  have TN_ := TN.out.below hq
  have BB_ := Below.next hq BB.out BB.out.size
  clear p5 p6 ML MO MM MP MQ MR VM VN MD ME MU MX TM TN BB hq
  have p5 := p5_
  have p6 := p6_
  have ML := Lib.hid ML_
  have MO := Lib.hid MO_
  have MM := Lib.hid MM_
  have MP := Lib.hid MP_
  have MQ := Lib.hid MQ_
  have MR := Lib.hid MR_
  have VM := Lib.hid VM_
  have VN := Lib.hid VN_
  have MD := Lib.hid MD_
  have ME := Lib.hid ME_
  have MU := Lib.hid MU_
  have MX := Lib.hid MX_
  have TM := Lib.hid TM_
  have TN := Lib.hid TN_
  have BB := Lib.hid BB_
  clear p5_ p6_ ML_ MO_ MM_ MP_ MQ_ MR_ VM_ VN_ MD_ ME_ MU_ MX_ TM_ TN_ BB_
  have MY := MY_n
  clear MY_n
  clear hoo hm
  obtain ⟨S, h_S⟩ : ∃ v, shV Y yb = v := ⟨_, rfl⟩
  have HS := Lib.hid h_S
  clear h_S
  obtain ⟨oks, h_oks⟩ : ∃ v, shOk Y yb = v := ⟨_, rfl⟩
  have HKS := Lib.hid h_oks
  clear h_oks
  have hSb : S.length ≤ 1048576 := by rw [← HS.out]; exact Nat.le_trans (shV_lenP _ _) (by omega)
  go_wp2_with fail
  refine (impl_ShiftOffsets_any B5 d5 Y yb _ MY.out (by omega)).mono ?_
  rintro e w14 ⟨SMA, SMc, he, ho, hq⟩
  rw [HS.out, HKS.out] at he
  rw [HS.out] at ho
  subst he
  have SM_n := Lib.hid (Mem.of_own ho)
  clear ho
  have p5_ := keep1 hq p5
  have p6_ := keep1 hq p6
  have ML_ := ML.out.below hq
  have MO_ := MO.out.below hq
  have MM_ := MM.out.below hq
  have MP_ := MP.out.below hq
  have MQ_ := MQ.out.below hq
  have MR_ := MR.out.below hq
  have VM_ := VM.out.below hq
  have VN_ := VN.out.below hq
  have MD_ := MD.out.below hq
  have ME_ := ME.out.below hq
  have MU_ := MU.out.below hq
  have MX_ := MX.out.below hq
  have TM_ := TM.out.below hq
  have TN_ := TN.out.below hq
  have MY_ := MY.out.below hq
  have BB_ := Below.next hq BB.out BB.out.size
  clear p5 p6 ML MO MM MP MQ MR VM VN MD ME MU MX TM TN MY BB hq
  have p5 := p5_
  have p6 := p6_
  have ML := Lib.hid ML_
  have MO := Lib.hid MO_
  have MM := Lib.hid MM_
  have MP := Lib.hid MP_
  have MQ := Lib.hid MQ_
  have MR := Lib.hid MR_
  have VM := Lib.hid VM_
  have VN := Lib.hid VN_
  have MD := Lib.hid MD_
  have ME := Lib.hid ME_
  have MU := Lib.hid MU_
  have MX := Lib.hid MX_
  have TM := Lib.hid TM_
  have TN := Lib.hid TN_
  have MY := Lib.hid MY_
  have BB := Lib.hid BB_
  clear p5_ p6_ ML_ MO_ MM_ MP_ MQ_ MR_ VM_ VN_ MD_ ME_ MU_ MX_ TM_ TN_ MY_ BB_
  have SM := SM_n
  clear SM_n
  go_wp2_with fail
  refine (spec_ShiftOffsets_any B5 d5 Y yb _ MY.out (by omega)).mono ?_
  rintro e w15 ⟨SNA, SNc, he, ho, hq⟩
  rw [HS.out, HKS.out] at he
  rw [HS.out] at ho
  subst he
  have SN_n := Lib.hid (Mem.of_own ho)
  clear ho
  have p5_ := keep1 hq p5
  have p6_ := keep1 hq p6
  have ML_ := ML.out.below hq
  have MO_ := MO.out.below hq
  have MM_ := MM.out.below hq
  have MP_ := MP.out.below hq
  have MQ_ := MQ.out.below hq
  have MR_ := MR.out.below hq
  have VM_ := VM.out.below hq
  have VN_ := VN.out.below hq
  have MD_ := MD.out.below hq
  have ME_ := ME.out.below hq
  have MU_ := MU.out.below hq
  have MX_ := MX.out.below hq
  have TM_ := TM.out.below hq
  have TN_ := TN.out.below hq
  have MY_ := MY.out.below hq
  have SM_ := SM.out.below hq
  have BB_ := Below.next hq BB.out BB.out.size
  clear p5 p6 ML MO MM MP MQ MR VM VN MD ME MU MX TM TN MY SM BB hq
  have p5 := p5_
  have p6 := p6_
  have ML := Lib.hid ML_
  have MO := Lib.hid MO_
  have MM := Lib.hid MM_
  have MP := Lib.hid MP_
  have MQ := Lib.hid MQ_
  have MR := Lib.hid MR_
  have VM := Lib.hid VM_
  have VN := Lib.hid VN_
  have MD := Lib.hid MD_
  have ME := Lib.hid ME_
  have MU := Lib.hid MU_
  have MX := Lib.hid MX_
  have TM := Lib.hid TM_
  have TN := Lib.hid TN_
  have MY := Lib.hid MY_
  have SM := Lib.hid SM_
  have BB := Lib.hid BB_
  clear p5_ p6_ ML_ MO_ MM_ MP_ MQ_ MR_ VM_ VN_ MD_ ME_ MU_ MX_ TM_ TN_ MY_ SM_ BB_
  have SN := SN_n
  clear SN_n
  go_wp2_with fail
  refine (qInts_same _ _ _ _ V _ VM.out VN.out hVb).mono ?_
  rintro e w16 ⟨rfl, hq⟩
  have p5_ := keep1 hq p5
  have p6_ := keep1 hq p6
  have ML_ := ML.out.below hq
  have MO_ := MO.out.below hq
  have MM_ := MM.out.below hq
  have MP_ := MP.out.below hq
  have MQ_ := MQ.out.below hq
  have MR_ := MR.out.below hq
  have VM_ := VM.out.below hq
  have VN_ := VN.out.below hq
  have MD_ := MD.out.below hq
  have ME_ := ME.out.below hq
  have MU_ := MU.out.below hq
  have MX_ := MX.out.below hq
  have TM_ := TM.out.below hq
  have TN_ := TN.out.below hq
  have MY_ := MY.out.below hq
  have SM_ := SM.out.below hq
  have SN_ := SN.out.below hq
  have BB_ := Below.next hq BB.out BB.out.size
  clear p5 p6 ML MO MM MP MQ MR VM VN MD ME MU MX TM TN MY SM SN BB hq
  have p5 := p5_
  have p6 := p6_
  have ML := Lib.hid ML_
  have MO := Lib.hid MO_
  have MM := Lib.hid MM_
  have MP := Lib.hid MP_
  have MQ := Lib.hid MQ_
  have MR := Lib.hid MR_
  have VM := Lib.hid VM_
  have VN := Lib.hid VN_
  have MD := Lib.hid MD_
  have ME := Lib.hid ME_
  have MU := Lib.hid MU_
  have MX := Lib.hid MX_
  have TM := Lib.hid TM_
  have TN := Lib.hid TN_
  have MY := Lib.hid MY_
  have SM := Lib.hid SM_
  have SN := Lib.hid SN_
  have BB := Lib.hid BB_
  clear p5_ p6_ ML_ MO_ MM_ MP_ MQ_ MR_ VM_ VN_ MD_ ME_ MU_ MX_ TM_ TN_ MY_ SM_ SN_ BB_
  go_wp2_with fail
  refine (qInts_same _ _ _ _ T _ TM.out TN.out hTb).mono ?_
  rintro e w17 ⟨rfl, hq⟩
  have p5_ := keep1 hq p5
  have p6_ := keep1 hq p6
  have ML_ := ML.out.below hq
  have MO_ := MO.out.below hq
  have MM_ := MM.out.below hq
  have MP_ := MP.out.below hq
  have MQ_ := MQ.out.below hq
  have MR_ := MR.out.below hq
  have VM_ := VM.out.below hq
  have VN_ := VN.out.below hq
  have MD_ := MD.out.below hq
  have ME_ := ME.out.below hq
  have MU_ := MU.out.below hq
  have MX_ := MX.out.below hq
  have TM_ := TM.out.below hq
  have TN_ := TN.out.below hq
  have MY_ := MY.out.below hq
  have SM_ := SM.out.below hq
  have SN_ := SN.out.below hq
  have BB_ := Below.next hq BB.out BB.out.size
  clear p5 p6 ML MO MM MP MQ MR VM VN MD ME MU MX TM TN MY SM SN BB hq
  have p5 := p5_
  have p6 := p6_
  have ML := Lib.hid ML_
  have MO := Lib.hid MO_
  have MM := Lib.hid MM_
  have MP := Lib.hid MP_
  have MQ := Lib.hid MQ_
  have MR := Lib.hid MR_
  have VM := Lib.hid VM_
  have VN := Lib.hid VN_
  have MD := Lib.hid MD_
  have ME := Lib.hid ME_
  have MU := Lib.hid MU_
  have MX := Lib.hid MX_
  have TM := Lib.hid TM_
  have TN := Lib.hid TN_
  have MY := Lib.hid MY_
  have SM := Lib.hid SM_
  have SN := Lib.hid SN_
  have BB := Lib.hid BB_
  clear p5_ p6_ ML_ MO_ MM_ MP_ MQ_ MR_ VM_ VN_ MD_ ME_ MU_ MX_ TM_ TN_ MY_ SM_ SN_ BB_
  go_wp2_with fail
  refine (qInts_same _ _ _ _ S _ SM.out SN.out hSb).mono ?_
  rintro e w18 ⟨rfl, hq⟩
  have p5_ := keep1 hq p5
  have p6_ := keep1 hq p6
  have ML_ := ML.out.below hq
  have MO_ := MO.out.below hq
  have MM_ := MM.out.below hq
  have MP_ := MP.out.below hq
  have MQ_ := MQ.out.below hq
  have MR_ := MR.out.below hq
  have VM_ := VM.out.below hq
  have VN_ := VN.out.below hq
  have MD_ := MD.out.below hq
  have ME_ := ME.out.below hq
  have MU_ := MU.out.below hq
  have MX_ := MX.out.below hq
  have TM_ := TM.out.below hq
  have TN_ := TN.out.below hq
  have MY_ := MY.out.below hq
  have SM_ := SM.out.below hq
  have SN_ := SN.out.below hq
  have BB_ := Below.next hq BB.out BB.out.size
  clear p5 p6 ML MO MM MP MQ MR VM VN MD ME MU MX TM TN MY SM SN BB hq
  have p5 := p5_
  have p6 := p6_
  have ML := Lib.hid ML_
  have MO := Lib.hid MO_
  have MM := Lib.hid MM_
  have MP := Lib.hid MP_
  have MQ := Lib.hid MQ_
  have MR := Lib.hid MR_
  have VM := Lib.hid VM_
  have VN := Lib.hid VN_
  have MD := Lib.hid MD_
  have ME := Lib.hid ME_
  have MU := Lib.hid MU_
  have MX := Lib.hid MX_
  have TM := Lib.hid TM_
  have TN := Lib.hid TN_
  have MY := Lib.hid MY_
  have SM := Lib.hid SM_
  have SN := Lib.hid SN_
  have BB := Lib.hid BB_
  clear p5_ p6_ ML_ MO_ MM_ MP_ MQ_ MR_ VM_ VN_ MD_ ME_ MU_ MX_ TM_ TN_ MY_ SM_ SN_ BB_
  go_upto_if 243 with (fail)
  go_cut [] from 243 to 285 (fun wx => Below W.heap.size W wx ∧ Hid (Mem wx A' (spots L)) ∧ Hid (Mem wx B' (ints O)) ∧ Hid (Mem wx C' (spots M)) ∧ Hid (Mem wx A3 (spots D)) ∧ Hid (Mem wx B3 (spots E)) ∧ wx.cell? ⟨w7.heap.size, 0, none⟩ = some (.int .i64 x3) ∧ wx.cell? ⟨w7.heap.size, 1, none⟩ = some (.int .i64 y3) ∧ Hid (Mem wx A4 (measures U)) ∧ Hid (Mem wx B4 (ints X)) ∧ Hid (Mem wx TNA (ints T)) ∧ Hid (Mem wx B5 (ints Y)) ∧ Hid (Mem wx SMA (ints S)))
  case first => as_aux_lemma =>
    cases ok1
    · go_wp2
      go_meet
      exact ⟨BB.out, ML, MO, MM, MD, ME, p5, p6, MU, MX, TN, MY, SM⟩
    obtain ⟨V', e1, hvl, hrl, hall⟩ := gp_facts HK1.out
    obtain rfl : V = V' := HV.out.symm.trans e1
    have HALL := Lib.hid hall
    clear hall e1
    go_wp2
    go_loopw [246] (fun i wr => ∃ k : Nat, k ≤ R.length ∧ i = .int .i64 k ∧ Below W.heap.size W wr ∧ Hid (Mem wr A' (spots L)) ∧ Hid (Mem wr B' (ints O)) ∧ Hid (Mem wr C' (spots M)) ∧ Hid (Mem wr A3 (spots D)) ∧ Hid (Mem wr B3 (spots E)) ∧ wr.cell? ⟨w7.heap.size, 0, none⟩ = some (.int .i64 x3) ∧ wr.cell? ⟨w7.heap.size, 1, none⟩ = some (.int .i64 y3) ∧ Hid (Mem wr A4 (measures U)) ∧ Hid (Mem wr B4 (ints X)) ∧ Hid (Mem wr TNA (ints T)) ∧ Hid (Mem wr B5 (ints Y)) ∧ Hid (Mem wr SMA (ints S)) ∧ Hid (Mem wr A2 (spots P)) ∧ Hid (Mem wr B2 (ints Q)) ∧ Hid (Mem wr C2 (spots R)) ∧ Hid (Mem wr VNA (ints V))) (fun i _ => R.length - (intOf i).toNat)
    case atStart => exact ⟨0, by omega, rfl, BB.out, ML, MO, MM, MD, ME, p5, p6, MU, MX, TN, MY, SM, MP, MQ, MR, VN⟩
    case round =>
      clear BB p5 p6 ML MO MM MP MQ MR VM VN MD ME MU MX TM TN MY SM SN
      obtain ⟨k, hk, rfl, hbb, ML, MO, MM, MD, ME, p5, p6, MU, MX, TN, MY, SM, MP, MQ, MR, VN⟩ := hrel
      have BB := Lib.hid hbb
      clear hbb
      by_cases hlt : k < R.length
      · skip
        obtain ⟨q, hq⟩ := some_of_lt hlt
        obtain ⟨a1, a2⟩ := HALL.out k q hq
        obtain ⟨bb, oo, rfl, s1, s2⟩ := MR.out.spot hq
        obtain ⟨sv, hsv⟩ : ∃ v, hsprV P Q q = v := ⟨_, rfl⟩
        rw [hsv] at a2
        have HSV := Lib.hid hsv
        have HEN := Lib.hid a1
        clear hq hsv a1
        go_wp2_with fail
        have hq : Below wr.heap.size wr (wr.alloc (.cells #[.int .i64 q.x, .int .i64 q.y] 25)) := (Below.refl _ _).alloc (Nat.le_refl _) _
        have p5_ := keep1 hq p5
        have p6_ := keep1 hq p6
        have s1_ := keep1 hq s1
        have s2_ := keep1 hq s2
        have ML_ := ML.out.below hq
        have MO_ := MO.out.below hq
        have MM_ := MM.out.below hq
        have MD_ := MD.out.below hq
        have ME_ := ME.out.below hq
        have MU_ := MU.out.below hq
        have MX_ := MX.out.below hq
        have TN_ := TN.out.below hq
        have MY_ := MY.out.below hq
        have SM_ := SM.out.below hq
        have MP_ := MP.out.below hq
        have MQ_ := MQ.out.below hq
        have MR_ := MR.out.below hq
        have VN_ := VN.out.below hq
        have BB_ := Below.next hq BB.out BB.out.size
        clear p5 p6 s1 s2 ML MO MM MD ME MU MX TN MY SM MP MQ MR VN BB hq
        have p5 := p5_
        have p6 := p6_
        have s1 := s1_
        have s2 := s2_
        have ML := Lib.hid ML_
        have MO := Lib.hid MO_
        have MM := Lib.hid MM_
        have MD := Lib.hid MD_
        have ME := Lib.hid ME_
        have MU := Lib.hid MU_
        have MX := Lib.hid MX_
        have TN := Lib.hid TN_
        have MY := Lib.hid MY_
        have SM := Lib.hid SM_
        have MP := Lib.hid MP_
        have MQ := Lib.hid MQ_
        have MR := Lib.hid MR_
        have VN := Lib.hid VN_
        have BB := Lib.hid BB_
        clear p5_ p6_ s1_ s2_ ML_ MO_ MM_ MD_ ME_ MU_ MX_ TN_ MY_ SM_ MP_ MQ_ MR_ VN_ BB_
        have p1 : (wr.alloc (.cells #[.int .i64 q.x, .int .i64 q.y] 25)).cell? ⟨wr.heap.size, 0, none⟩ = some (.int .i64 q.x) := by simp [go_sem]
        have p2 : (wr.alloc (.cells #[.int .i64 q.x, .int .i64 q.y] 25)).cell? ⟨wr.heap.size, 1, none⟩ = some (.int .i64 q.y) := by simp [go_sem]
        refine (impl_HeardSpread_any A2 c2 P B2 d2 Q q _ MP.out MQ.out (by omega) (by omega)).mono ?_
        rintro e w19 ⟨he, hq⟩
        rw [HSV.out, HEN.out] at he
        subst he
        have p5_ := keep1 hq p5
        have p6_ := keep1 hq p6
        have s1_ := keep1 hq s1
        have s2_ := keep1 hq s2
        have p1_ := keep1 hq p1
        have p2_ := keep1 hq p2
        have ML_ := ML.out.below hq
        have MO_ := MO.out.below hq
        have MM_ := MM.out.below hq
        have MD_ := MD.out.below hq
        have ME_ := ME.out.below hq
        have MU_ := MU.out.below hq
        have MX_ := MX.out.below hq
        have TN_ := TN.out.below hq
        have MY_ := MY.out.below hq
        have SM_ := SM.out.below hq
        have MP_ := MP.out.below hq
        have MQ_ := MQ.out.below hq
        have MR_ := MR.out.below hq
        have VN_ := VN.out.below hq
        have BB_ := Below.next hq BB.out BB.out.size
        clear p5 p6 s1 s2 p1 p2 ML MO MM MD ME MU MX TN MY SM MP MQ MR VN BB hq
        have p5 := p5_
        have p6 := p6_
        have s1 := s1_
        have s2 := s2_
        have p1 := p1_
        have p2 := p2_
        have ML := Lib.hid ML_
        have MO := Lib.hid MO_
        have MM := Lib.hid MM_
        have MD := Lib.hid MD_
        have ME := Lib.hid ME_
        have MU := Lib.hid MU_
        have MX := Lib.hid MX_
        have TN := Lib.hid TN_
        have MY := Lib.hid MY_
        have SM := Lib.hid SM_
        have MP := Lib.hid MP_
        have MQ := Lib.hid MQ_
        have MR := Lib.hid MR_
        have VN := Lib.hid VN_
        have BB := Lib.hid BB_
        clear p5_ p6_ s1_ s2_ p1_ p2_ ML_ MO_ MM_ MD_ ME_ MU_ MX_ TN_ MY_ SM_ MP_ MQ_ MR_ VN_ BB_
        go_wp2_with fail
        refine (spec_HeardSpread_any A2 c2 P B2 d2 Q q _ MP.out MQ.out (by omega) (by omega)).mono ?_
        rintro e w20 ⟨he, hq⟩
        rw [HSV.out, HEN.out] at he
        subst he
        have p5_ := keep1 hq p5
        have p6_ := keep1 hq p6
        have s1_ := keep1 hq s1
        have s2_ := keep1 hq s2
        have p1_ := keep1 hq p1
        have p2_ := keep1 hq p2
        have ML_ := ML.out.below hq
        have MO_ := MO.out.below hq
        have MM_ := MM.out.below hq
        have MD_ := MD.out.below hq
        have ME_ := ME.out.below hq
        have MU_ := MU.out.below hq
        have MX_ := MX.out.below hq
        have TN_ := TN.out.below hq
        have MY_ := MY.out.below hq
        have SM_ := SM.out.below hq
        have MP_ := MP.out.below hq
        have MQ_ := MQ.out.below hq
        have MR_ := MR.out.below hq
        have VN_ := VN.out.below hq
        have BB_ := Below.next hq BB.out BB.out.size
        clear p5 p6 s1 s2 p1 p2 ML MO MM MD ME MU MX TN MY SM MP MQ MR VN BB hq
        have p5 := p5_
        have p6 := p6_
        have s1 := s1_
        have s2 := s2_
        have p1 := p1_
        have p2 := p2_
        have ML := Lib.hid ML_
        have MO := Lib.hid MO_
        have MM := Lib.hid MM_
        have MD := Lib.hid MD_
        have ME := Lib.hid ME_
        have MU := Lib.hid MU_
        have MX := Lib.hid MX_
        have TN := Lib.hid TN_
        have MY := Lib.hid MY_
        have SM := Lib.hid SM_
        have MP := Lib.hid MP_
        have MQ := Lib.hid MQ_
        have MR := Lib.hid MR_
        have VN := Lib.hid VN_
        have BB := Lib.hid BB_
        clear p5_ p6_ s1_ s2_ p1_ p2_ ML_ MO_ MM_ MD_ ME_ MU_ MX_ TN_ MY_ SM_ MP_ MQ_ MR_ VN_ BB_
        by_cases hc : sv ≤ m
        · skip
          have HD2 := Lib.hid (show decide ((k : Int) ∈ V) = true by simp [a2, hc])
          clear a2
          go_wp2_with fail
          refine (qHas_any _ _ V _ _ VN.out hVb).mono ?_
          rintro e _ ⟨he, rfl⟩
          rw [HD2.out] at he
          subst he
          go_wp2
          go_roundw
          case rel => exact ⟨k + 1, by omega, by go_num, BB.out, ML, MO, MM, MD, ME, p5, p6, MU, MX, TN, MY, SM, MP, MQ, MR, VN⟩
          case measure => simp [intOf]; omega
        · skip
          have HD2 := Lib.hid (show decide ((k : Int) ∈ V) = false by simp [a2, hc])
          clear a2
          go_wp2_with fail
          refine (qHas_any _ _ V _ _ VN.out hVb).mono ?_
          rintro e _ ⟨he, rfl⟩
          rw [HD2.out] at he
          subst he
          go_wp2
          go_roundw
          case rel => exact ⟨k + 1, by omega, by go_num, BB.out, ML, MO, MM, MD, ME, p5, p6, MU, MX, TN, MY, SM, MP, MQ, MR, VN⟩
          case measure => simp [intOf]; omega
      · skip
        go_wp2
        go_meet
        exact ⟨BB.out, ML, MO, MM, MD, ME, p5, p6, MU, MX, TN, MY, SM⟩
  case rest => as_aux_lemma =>
    clear BB p5 p6 ML MO MM MP MQ MR VM VN MD ME MU MX TM TN MY SM SN
    obtain ⟨hbb, ML, MO, MM, MD, ME, p5, p6, MU, MX, TN, MY, SM⟩ := hcut
    have BB := Lib.hid hbb
    clear hbb
    clear HV HK1 hVb K0 K1 hlP hlQ hlR
    go_upto_if 286 with (fail)
    go_cut [] from 286 to 374 (fun wx => Below W.heap.size W wx ∧ Hid (Mem wx A' (spots L)) ∧ Hid (Mem wx B' (ints O)) ∧ Hid (Mem wx C' (spots M)) ∧ Hid (Mem wx A4 (measures U)) ∧ Hid (Mem wx B4 (ints X)) ∧ Hid (Mem wx TNA (ints T)) ∧ Hid (Mem wx B5 (ints Y)) ∧ Hid (Mem wx SMA (ints S)))
    case first => as_aux_lemma =>
      cases okb
      · go_wp2
        go_meet
        exact ⟨BB.out, ML, MO, MM, MU, MX, TN, MY, SM⟩
      obtain ⟨j, t, e1, e2, hel, hall⟩ := bc_facts HKB.out
      obtain rfl : ba = (j : Int) := HBA.out.symm.trans e1
      obtain rfl : bv = t := HBV.out.symm.trans e2
      have HALL := Lib.hid hall
      obtain ⟨i0, hi, hz0, hz1, hz2⟩ := info_parts info_int
      clear hall e1 e2
      go_wp2
      go_loopw [289] (fun i wr => ∃ k : Nat, k ≤ E.length ∧ i = .int .i64 k ∧ Below W.heap.size W wr ∧ Hid (Mem wr A' (spots L)) ∧ Hid (Mem wr B' (ints O)) ∧ Hid (Mem wr C' (spots M)) ∧ Hid (Mem wr A4 (measures U)) ∧ Hid (Mem wr B4 (ints X)) ∧ Hid (Mem wr TNA (ints T)) ∧ Hid (Mem wr B5 (ints Y)) ∧ Hid (Mem wr SMA (ints S)) ∧ Hid (Mem wr A3 (spots D)) ∧ Hid (Mem wr B3 (spots E)) ∧ wr.cell? ⟨w7.heap.size, 0, none⟩ = some (.int .i64 x3) ∧ wr.cell? ⟨w7.heap.size, 1, none⟩ = some (.int .i64 y3)) (fun i _ => E.length - (intOf i).toNat)
      case atStart => exact ⟨0, by omega, rfl, BB.out, ML, MO, MM, MU, MX, TN, MY, SM, MD, ME, p5, p6⟩
      case round =>
        clear BB p5 p6 ML MO MM MD ME MU MX TN MY SM
        obtain ⟨k, hk, rfl, hbb, ML, MO, MM, MU, MX, TN, MY, SM, MD, ME, p5, p6⟩ := hrel
        have BB := Lib.hid hbb
        clear hbb
        by_cases hlt : k < E.length
        · skip
          obtain ⟨q, hq⟩ := some_of_lt hlt
          obtain ⟨a1, a2, a3, a4, a5, a6⟩ := HALL.out k q hq
          obtain ⟨bb, oo, rfl, s1, s2⟩ := ME.out.spot hq
          obtain ⟨N, hN⟩ : ∃ N, times D q = N := ⟨_, rfl⟩
          rw [hN] at a2 a3 a4 a5 a6
          have hNb : N.length ≤ 1048576 := by rw [← hN, times_len]; omega
          obtain ⟨sv, hsv⟩ : ∃ v, hsprV D N ⟨x3, y3⟩ = v := ⟨_, rfl⟩
          rw [hsv] at a4 a5 a6
          have HSV := Lib.hid hsv
          have HZ := Lib.hid a1
          have HTZ := Lib.hid a2
          have HEN := Lib.hid a3
          have J5 := Lib.hid a5
          have J6 := Lib.hid a6
          clear hq hsv a1 a2 a3 a5 a6 hN
          go_wp2
          have hq : Below wr.heap.size wr (wr.alloc (.cells #[.int .i64 q.x, .int .i64 q.y] 25)) := (Below.refl _ _).alloc (Nat.le_refl _) _
          have p5_ := keep1 hq p5
          have p6_ := keep1 hq p6
          have s1_ := keep1 hq s1
          have s2_ := keep1 hq s2
          have ML_ := ML.out.below hq
          have MO_ := MO.out.below hq
          have MM_ := MM.out.below hq
          have MU_ := MU.out.below hq
          have MX_ := MX.out.below hq
          have TN_ := TN.out.below hq
          have MY_ := MY.out.below hq
          have SM_ := SM.out.below hq
          have MD_ := MD.out.below hq
          have ME_ := ME.out.below hq
          have BB_ := Below.next hq BB.out BB.out.size
          clear p5 p6 s1 s2 ML MO MM MU MX TN MY SM MD ME BB hq
          have p5 := p5_
          have p6 := p6_
          have s1 := s1_
          have s2 := s2_
          have ML := Lib.hid ML_
          have MO := Lib.hid MO_
          have MM := Lib.hid MM_
          have MU := Lib.hid MU_
          have MX := Lib.hid MX_
          have TN := Lib.hid TN_
          have MY := Lib.hid MY_
          have SM := Lib.hid SM_
          have MD := Lib.hid MD_
          have ME := Lib.hid ME_
          have BB := Lib.hid BB_
          clear p5_ p6_ s1_ s2_ ML_ MO_ MM_ MU_ MX_ TN_ MY_ SM_ MD_ ME_ BB_
          have p1 : (wr.alloc (.cells #[.int .i64 q.x, .int .i64 q.y] 25)).cell? ⟨wr.heap.size, 0, none⟩ = some (.int .i64 q.x) := by simp [go_sem]
          have p2 : (wr.alloc (.cells #[.int .i64 q.x, .int .i64 q.y] 25)).cell? ⟨wr.heap.size, 1, none⟩ = some (.int .i64 q.y) := by simp [go_sem]
          have hS : (wr.alloc (.cells #[.int .i64 q.x, .int .i64 q.y] 25)).cell? ⟨wr.heap.size, 0, none⟩ = some (.int .i64 q.x) ∧ (wr.alloc (.cells #[.int .i64 q.x, .int .i64 q.y] 25)).cell? ⟨wr.heap.size, 1, none⟩ = some (.int .i64 q.y) := ⟨p1, p2⟩
          have HSS := Lib.hid hS
          clear hS
          go_region_held3 (fun w' => w'.cell? ⟨wr.heap.size, 0, none⟩ = some (.int .i64 q.x) ∧ w'.cell? ⟨wr.heap.size, 1, none⟩ = some (.int .i64 q.y))
            (first | assumption | exact HSS.out | (simp [go_sem, *]; done))
            (first
              | (refine upon_make _ 35 3 i0 (.int .i64 0) 1 Try.underlying35 hi hz0 hz1 _ D.length (by rw [hz2]; omega) (by unfold maxLen; omega) ?_; intro w40 ho3 hg3; have hq3 := below_drew (grown_below hg3); replace ho3 := made_row (wr.heap.size + 1) ho3 (by simp); have hS3 := keep2 hq3 HSS.out; have MD3 := Lib.hid (MD.out.below hq3); have MZ3 := Lib.hid (Mem.of_own ho3); clear ho3 hg3)
              | (go_at_call 38; refine (impl_HeardTimesZ A3 c3 D _ _ q _ MD3.out MZ3.out (by omega)).mono ?_; rintro e w41 ⟨NMA, NMc, he, ho, hq4⟩; rw [HTZ.out, HZ.out] at he; rw [HTZ.out] at ho; subst he; have hS4 := keep2 hq4 hS3; have hq := below_next hq3 hq4; have NM_n := Lib.hid (Mem.of_own ho); clear ho hq4))
          clear HSS hS3 hS4 MD3 MZ3 hq3
          have p5_ := keep1 hq p5
          have p6_ := keep1 hq p6
          have s1_ := keep1 hq s1
          have s2_ := keep1 hq s2
          have p1_ := keep1 hq p1
          have p2_ := keep1 hq p2
          have ML_ := ML.out.below hq
          have MO_ := MO.out.below hq
          have MM_ := MM.out.below hq
          have MU_ := MU.out.below hq
          have MX_ := MX.out.below hq
          have TN_ := TN.out.below hq
          have MY_ := MY.out.below hq
          have SM_ := SM.out.below hq
          have MD_ := MD.out.below hq
          have ME_ := ME.out.below hq
          have BB_ := Below.next hq BB.out BB.out.size
          clear p5 p6 s1 s2 p1 p2 ML MO MM MU MX TN MY SM MD ME BB hq
          have p5 := p5_
          have p6 := p6_
          have s1 := s1_
          have s2 := s2_
          have p1 := p1_
          have p2 := p2_
          have ML := Lib.hid ML_
          have MO := Lib.hid MO_
          have MM := Lib.hid MM_
          have MU := Lib.hid MU_
          have MX := Lib.hid MX_
          have TN := Lib.hid TN_
          have MY := Lib.hid MY_
          have SM := Lib.hid SM_
          have MD := Lib.hid MD_
          have ME := Lib.hid ME_
          have BB := Lib.hid BB_
          clear p5_ p6_ s1_ s2_ p1_ p2_ ML_ MO_ MM_ MU_ MX_ TN_ MY_ SM_ MD_ ME_ BB_
          have NM := NM_n
          clear NM_n
          go_wp2
          have hS : w41.cell? ⟨wr.heap.size, 0, none⟩ = some (.int .i64 q.x) ∧ w41.cell? ⟨wr.heap.size, 1, none⟩ = some (.int .i64 q.y) := ⟨p1, p2⟩
          have HSS := Lib.hid hS
          clear hS
          go_region_held3 (fun w' => w'.cell? ⟨wr.heap.size, 0, none⟩ = some (.int .i64 q.x) ∧ w'.cell? ⟨wr.heap.size, 1, none⟩ = some (.int .i64 q.y))
            (first | assumption | exact HSS.out | (simp [go_sem, *]; done))
            (first
              | (refine upon_make _ 35 3 i0 (.int .i64 0) 1 Try.underlying35 hi hz0 hz1 _ D.length (by rw [hz2]; omega) (by unfold maxLen; omega) ?_; intro w42 ho3 hg3; have hq3 := below_drew (grown_below hg3); replace ho3 := made_row (w41.heap.size) ho3 (by simp); have hS3 := keep2 hq3 HSS.out; have MD3 := Lib.hid (MD.out.below hq3); have MZ3 := Lib.hid (Mem.of_own ho3); clear ho3 hg3)
              | (go_at_call 39; refine (spec_HeardTimesZ A3 c3 D _ _ q _ MD3.out MZ3.out (by omega)).mono ?_; rintro e w43 ⟨NNA, NNc, he, ho, hq4⟩; rw [HTZ.out, HZ.out] at he; rw [HTZ.out] at ho; subst he; have hS4 := keep2 hq4 hS3; have hq := below_next hq3 hq4; have NN_n := Lib.hid (Mem.of_own ho); clear ho hq4))
          clear HSS hS3 hS4 MD3 MZ3 hq3
          have p5_ := keep1 hq p5
          have p6_ := keep1 hq p6
          have s1_ := keep1 hq s1
          have s2_ := keep1 hq s2
          have p1_ := keep1 hq p1
          have p2_ := keep1 hq p2
          have ML_ := ML.out.below hq
          have MO_ := MO.out.below hq
          have MM_ := MM.out.below hq
          have MU_ := MU.out.below hq
          have MX_ := MX.out.below hq
          have TN_ := TN.out.below hq
          have MY_ := MY.out.below hq
          have SM_ := SM.out.below hq
          have MD_ := MD.out.below hq
          have ME_ := ME.out.below hq
          have NM_ := NM.out.below hq
          have BB_ := Below.next hq BB.out BB.out.size
          clear p5 p6 s1 s2 p1 p2 ML MO MM MU MX TN MY SM MD ME NM BB hq
          have p5 := p5_
          have p6 := p6_
          have s1 := s1_
          have s2 := s2_
          have p1 := p1_
          have p2 := p2_
          have ML := Lib.hid ML_
          have MO := Lib.hid MO_
          have MM := Lib.hid MM_
          have MU := Lib.hid MU_
          have MX := Lib.hid MX_
          have TN := Lib.hid TN_
          have MY := Lib.hid MY_
          have SM := Lib.hid SM_
          have MD := Lib.hid MD_
          have ME := Lib.hid ME_
          have NM := Lib.hid NM_
          have BB := Lib.hid BB_
          clear p5_ p6_ s1_ s2_ p1_ p2_ ML_ MO_ MM_ MU_ MX_ TN_ MY_ SM_ MD_ ME_ NM_ BB_
          have NN := NN_n
          clear NN_n
          go_wp2_with fail
          refine (qInts_same _ _ _ _ N _ NM.out NN.out hNb).mono ?_
          rintro e w21 ⟨rfl, hq⟩
          have p5_ := keep1 hq p5
          have p6_ := keep1 hq p6
          have s1_ := keep1 hq s1
          have s2_ := keep1 hq s2
          have p1_ := keep1 hq p1
          have p2_ := keep1 hq p2
          have ML_ := ML.out.below hq
          have MO_ := MO.out.below hq
          have MM_ := MM.out.below hq
          have MU_ := MU.out.below hq
          have MX_ := MX.out.below hq
          have TN_ := TN.out.below hq
          have MY_ := MY.out.below hq
          have SM_ := SM.out.below hq
          have MD_ := MD.out.below hq
          have ME_ := ME.out.below hq
          have NM_ := NM.out.below hq
          have NN_ := NN.out.below hq
          have BB_ := Below.next hq BB.out BB.out.size
          clear p5 p6 s1 s2 p1 p2 ML MO MM MU MX TN MY SM MD ME NM NN BB hq
          have p5 := p5_
          have p6 := p6_
          have s1 := s1_
          have s2 := s2_
          have p1 := p1_
          have p2 := p2_
          have ML := Lib.hid ML_
          have MO := Lib.hid MO_
          have MM := Lib.hid MM_
          have MU := Lib.hid MU_
          have MX := Lib.hid MX_
          have TN := Lib.hid TN_
          have MY := Lib.hid MY_
          have SM := Lib.hid SM_
          have MD := Lib.hid MD_
          have ME := Lib.hid ME_
          have NM := Lib.hid NM_
          have NN := Lib.hid NN_
          have BB := Lib.hid BB_
          clear p5_ p6_ s1_ s2_ p1_ p2_ ML_ MO_ MM_ MU_ MX_ TN_ MY_ SM_ MD_ ME_ NM_ NN_ BB_
          go_wp2_with fail
          refine (impl_HeardSpread_any A3 c3 D NMA NMc N ⟨x3, y3⟩ _ MD.out NM.out (by omega) hNb).mono ?_
          rintro e w22 ⟨he, hq⟩
          rw [HSV.out, HEN.out] at he
          subst he
          have p5_ := keep1 hq p5
          have p6_ := keep1 hq p6
          have s1_ := keep1 hq s1
          have s2_ := keep1 hq s2
          have p1_ := keep1 hq p1
          have p2_ := keep1 hq p2
          have ML_ := ML.out.below hq
          have MO_ := MO.out.below hq
          have MM_ := MM.out.below hq
          have MU_ := MU.out.below hq
          have MX_ := MX.out.below hq
          have TN_ := TN.out.below hq
          have MY_ := MY.out.below hq
          have SM_ := SM.out.below hq
          have MD_ := MD.out.below hq
          have ME_ := ME.out.below hq
          have NM_ := NM.out.below hq
          have NN_ := NN.out.below hq
          have BB_ := Below.next hq BB.out BB.out.size
          clear p5 p6 s1 s2 p1 p2 ML MO MM MU MX TN MY SM MD ME NM NN BB hq
          have p5 := p5_
          have p6 := p6_
          have s1 := s1_
          have s2 := s2_
          have p1 := p1_
          have p2 := p2_
          have ML := Lib.hid ML_
          have MO := Lib.hid MO_
          have MM := Lib.hid MM_
          have MU := Lib.hid MU_
          have MX := Lib.hid MX_
          have TN := Lib.hid TN_
          have MY := Lib.hid MY_
          have SM := Lib.hid SM_
          have MD := Lib.hid MD_
          have ME := Lib.hid ME_
          have NM := Lib.hid NM_
          have NN := Lib.hid NN_
          have BB := Lib.hid BB_
          clear p5_ p6_ s1_ s2_ p1_ p2_ ML_ MO_ MM_ MU_ MX_ TN_ MY_ SM_ MD_ ME_ NM_ NN_ BB_
          go_wp2_with fail
          refine (spec_HeardSpread_any A3 c3 D NNA NNc N ⟨x3, y3⟩ _ MD.out NN.out (by omega) hNb).mono ?_
          rintro e w23 ⟨he, hq⟩
          rw [HSV.out, HEN.out] at he
          subst he
          have p5_ := keep1 hq p5
          have p6_ := keep1 hq p6
          have s1_ := keep1 hq s1
          have s2_ := keep1 hq s2
          have p1_ := keep1 hq p1
          have p2_ := keep1 hq p2
          have ML_ := ML.out.below hq
          have MO_ := MO.out.below hq
          have MM_ := MM.out.below hq
          have MU_ := MU.out.below hq
          have MX_ := MX.out.below hq
          have TN_ := TN.out.below hq
          have MY_ := MY.out.below hq
          have SM_ := SM.out.below hq
          have MD_ := MD.out.below hq
          have ME_ := ME.out.below hq
          have NM_ := NM.out.below hq
          have NN_ := NN.out.below hq
          have BB_ := Below.next hq BB.out BB.out.size
          clear p5 p6 s1 s2 p1 p2 ML MO MM MU MX TN MY SM MD ME NM NN BB hq
          have p5 := p5_
          have p6 := p6_
          have s1 := s1_
          have s2 := s2_
          have p1 := p1_
          have p2 := p2_
          have ML := Lib.hid ML_
          have MO := Lib.hid MO_
          have MM := Lib.hid MM_
          have MU := Lib.hid MU_
          have MX := Lib.hid MX_
          have TN := Lib.hid TN_
          have MY := Lib.hid MY_
          have SM := Lib.hid SM_
          have MD := Lib.hid MD_
          have ME := Lib.hid ME_
          have NM := Lib.hid NM_
          have NN := Lib.hid NN_
          have BB := Lib.hid BB_
          clear p5_ p6_ s1_ s2_ p1_ p2_ ML_ MO_ MM_ MU_ MX_ TN_ MY_ SM_ MD_ ME_ NM_ NN_ BB_
          by_cases hkj0 : k = j
          · skip
            have hc := J6.out hkj0
            subst hc
            subst hkj0
            go_wp2
            go_roundw
            case rel => exact ⟨k + 1, by omega, by go_num, BB.out, ML, MO, MM, MU, MX, TN, MY, SM, MD, ME, p5, p6⟩
            case measure => simp [intOf]; omega
          have hkj : ((k : Int) == (j : Int)) = false := beq_eq_false_iff_ne.2 (by omega)
          by_cases hc : sv = bv
          · skip
            have hjk := J5.out hc
            subst hc
            go_wp2
            go_roundw
            case rel => exact ⟨k + 1, by omega, by go_num, BB.out, ML, MO, MM, MU, MX, TN, MY, SM, MD, ME, p5, p6⟩
            case measure => simp [intOf]; omega
          · skip
            have hc' : (sv == bv) = false := beq_eq_false_iff_ne.2 hc
            go_wp2
            go_roundw
            case rel => exact ⟨k + 1, by omega, by go_num, BB.out, ML, MO, MM, MU, MX, TN, MY, SM, MD, ME, p5, p6⟩
            case measure => simp [intOf]; omega
        · skip
          go_wp2
          go_meet
          exact ⟨BB.out, ML, MO, MM, MU, MX, TN, MY, SM⟩
    case rest => as_aux_lemma =>
      clear BB ML MO MM MD ME p5 p6 MU MX TN MY SM
      obtain ⟨hbb, ML, MO, MM, MU, MX, TN, MY, SM⟩ := hcut
      have BB := Lib.hid hbb
      clear hbb
      clear HBA HBV HKB hlD hlE
      go_upto_if 375 with (fail)
      go_cut [] from 375 to 405 (fun wx => Below W.heap.size W wx ∧ Hid (Mem wx A' (spots L)) ∧ Hid (Mem wx B' (ints O)) ∧ Hid (Mem wx C' (spots M)) ∧ Hid (Mem wx B5 (ints Y)) ∧ Hid (Mem wx SMA (ints S)))
      case first => as_aux_lemma =>
        cases okt
        · go_wp2
          go_meet
          exact ⟨BB.out, ML, MO, MM, MY, SM⟩
        obtain ⟨T', e1, htl, hxl, hmu, hn0, hn1, hall⟩ := et_facts HKT.out
        obtain rfl : T = T' := HT.out.symm.trans e1
        have HALL := Lib.hid hall
        have HMU := Lib.hid hmu
        have hTX : T.length ≤ X.length := by omega
        have htl40 : T.length ≤ 40 := by omega
        obtain ⟨tv, htv⟩ : ∃ v, muT U n = v := ⟨_, rfl⟩
        have HTV := Lib.hid htv
        clear hall e1 htl hmu htv
        have htb2 : 0 ≤ tv ∧ tv ≤ 720000 * U.length := by rw [← HTV.out]; exact muT_bd U n (musOk_iff.1 HMU.out).1 hn0
        obtain ⟨htb, htb2⟩ := htb2
        go_wp2_with fail
        refine (impl_TimeOf_any A4 c4 U n _ MU.out (by omega) HMU.out hn0 hn1).mono ?_
        rintro e w24 ⟨he, hq⟩
        rw [HTV.out] at he
        subst he
        have ML_ := ML.out.below hq
        have MO_ := MO.out.below hq
        have MM_ := MM.out.below hq
        have MU_ := MU.out.below hq
        have MX_ := MX.out.below hq
        have TN_ := TN.out.below hq
        have MY_ := MY.out.below hq
        have SM_ := SM.out.below hq
        have BB_ := Below.next hq BB.out BB.out.size
        clear ML MO MM MU MX TN MY SM BB hq
        have ML := Lib.hid ML_
        have MO := Lib.hid MO_
        have MM := Lib.hid MM_
        have MU := Lib.hid MU_
        have MX := Lib.hid MX_
        have TN := Lib.hid TN_
        have MY := Lib.hid MY_
        have SM := Lib.hid SM_
        have BB := Lib.hid BB_
        clear ML_ MO_ MM_ MU_ MX_ TN_ MY_ SM_ BB_
        go_wp2
        go_loop [384] (fun i => ∃ k : Nat, k ≤ T.length ∧ i = .int .i64 k) (fun i => T.length - (intOf i).toNat)
        case atStart => exact ⟨0, by omega, rfl⟩
        case round =>
          obtain ⟨k, hk, rfl⟩ := hrel
          by_cases hlt : k < T.length
          · skip
            have hkX : k < X.length := by omega
            obtain ⟨o, ho⟩ := some_of_lt hkX
            obtain ⟨a1, a2, a3, a4⟩ := HALL.out k o ho
            rw [HTV.out] at a1 a2
            obtain ⟨bt, ot, rfl, d1⟩ := TN.out.int a1
            obtain ⟨bx, ox, rfl, d2⟩ := MX.out.int ho
            obtain ⟨s, hs⟩ : ∃ s : Int, tv + o = s := ⟨_, rfl⟩
            rw [hs] at d1 a2
            have hne : (s != tv + o) = false := by rw [hs]; simp
            clear a1 ho hs
            go_wp2
            go_round
            case rel => exact ⟨k + 1, by omega, by go_num⟩
            case measure => simp [intOf]; omega
          · skip
            go_wp2
            go_meet
            exact ⟨BB.out, ML, MO, MM, MY, SM⟩
      case rest => as_aux_lemma =>
        clear BB ML MO MM MU MX TN MY SM
        obtain ⟨hbb, ML, MO, MM, MY, SM⟩ := hcut
        have BB := Lib.hid hbb
        clear hbb
        clear HT HKT hTb hlU hlX
        go_upto_if 406 with (fail)
        go_cut [] from 406 to 421 (fun wx => Below W.heap.size W wx ∧ Hid (Mem wx A' (spots L)) ∧ Hid (Mem wx B' (ints O)) ∧ Hid (Mem wx C' (spots M)))
        case first => as_aux_lemma =>
          cases oks
          · go_wp2
            go_meet
            exact ⟨BB.out, ML, MO, MM⟩
          obtain ⟨S', e1, e2, e3, hsl, hyl, yb0, yb1⟩ := back_facts HKS.out
          obtain rfl : S = S' := HS.out.symm.trans e1
          have E2 := Lib.hid e2
          have E3 := Lib.hid e3
          have hYb : Y.length ≤ 1048576 := by omega
          clear e1 e2 e3
          go_wp2_with fail
          refine (impl_ShiftOffsets_any SMA SMc S (-yb) _ SM.out (by omega)).mono ?_
          rintro e w25 ⟨YMA, YMc, he, ho, hq⟩
          rw [E3.out, E2.out] at he
          rw [E3.out] at ho
          subst he
          have YM_n := Lib.hid (Mem.of_own ho)
          clear ho
          have ML_ := ML.out.below hq
          have MO_ := MO.out.below hq
          have MM_ := MM.out.below hq
          have MY_ := MY.out.below hq
          have SM_ := SM.out.below hq
          have BB_ := Below.next hq BB.out BB.out.size
          clear ML MO MM MY SM BB hq
          have ML := Lib.hid ML_
          have MO := Lib.hid MO_
          have MM := Lib.hid MM_
          have MY := Lib.hid MY_
          have SM := Lib.hid SM_
          have BB := Lib.hid BB_
          clear ML_ MO_ MM_ MY_ SM_ BB_
          have YM := YM_n
          clear YM_n
          go_wp2_with fail
          refine (qInts_same _ _ _ _ Y _ YM.out MY.out hYb).mono ?_
          rintro e w26 ⟨rfl, hq⟩
          have ML_ := ML.out.below hq
          have MO_ := MO.out.below hq
          have MM_ := MM.out.below hq
          have MY_ := MY.out.below hq
          have SM_ := SM.out.below hq
          have YM_ := YM.out.below hq
          have BB_ := Below.next hq BB.out BB.out.size
          clear ML MO MM MY SM YM BB hq
          have ML := Lib.hid ML_
          have MO := Lib.hid MO_
          have MM := Lib.hid MM_
          have MY := Lib.hid MY_
          have SM := Lib.hid SM_
          have YM := Lib.hid YM_
          have BB := Lib.hid BB_
          clear ML_ MO_ MM_ MY_ SM_ YM_ BB_
          go_wp2
          go_meet
          exact ⟨BB.out, ML, MO, MM⟩
        case rest => as_aux_lemma =>
          clear BB ML MO MM MY SM
          obtain ⟨hbb, ML, MO, MM⟩ := hcut
          have BB := Lib.hid hbb
          clear hbb
          clear HS HKS hSb hlY
          cases ok
          · go_wp2
            go_ret
            exact ⟨rfl, BB.out⟩
          obtain ⟨j, t, e1, e2, hml, hall⟩ := wl_facts HK.out
          obtain rfl : wa = (j : Int) := HWA.out.symm.trans e1
          obtain rfl : wb = t := HWB.out.symm.trans e2
          have HALL := Lib.hid hall
          clear hall e1 e2
          go_wp2
          go_loopw [426] (fun i wr => ∃ k : Nat, k ≤ M.length ∧ i = .int .i64 k ∧ Below W.heap.size W wr ∧ Hid (Mem wr A' (spots L)) ∧ Hid (Mem wr B' (ints O)) ∧ Hid (Mem wr C' (spots M))) (fun i _ => M.length - (intOf i).toNat)
          case atStart => exact ⟨0, by omega, rfl, BB.out, ML, MO, MM⟩
          case round =>
            clear BB ML MO MM
            obtain ⟨k, hk, rfl, hbb, ML, MO, MM⟩ := hrel
            have BB := Lib.hid hbb
            clear hbb
            by_cases hlt : k < M.length
            · skip
              obtain ⟨q, hq⟩ := some_of_lt hlt
              obtain ⟨a1, a2, a3, a4⟩ := HALL.out k q hq
              obtain ⟨bb, oo, rfl, s1, s2⟩ := MM.out.spot hq
              obtain ⟨sv, hsv⟩ : ∃ v, hsprV L O q = v := ⟨_, rfl⟩
              rw [hsv] at a2 a3 a4
              have HSV := Lib.hid hsv
              have HEN := Lib.hid a1
              have J3 := Lib.hid a3
              have J4 := Lib.hid a4
              clear hq hsv a1 a3 a4
              go_wp2_with fail
              have hq : Below wr.heap.size wr (wr.alloc (.cells #[.int .i64 q.x, .int .i64 q.y] 25)) := (Below.refl _ _).alloc (Nat.le_refl _) _
              have s1_ := keep1 hq s1
              have s2_ := keep1 hq s2
              have ML_ := ML.out.below hq
              have MO_ := MO.out.below hq
              have MM_ := MM.out.below hq
              have BB_ := Below.next hq BB.out BB.out.size
              clear s1 s2 ML MO MM BB hq
              have s1 := s1_
              have s2 := s2_
              have ML := Lib.hid ML_
              have MO := Lib.hid MO_
              have MM := Lib.hid MM_
              have BB := Lib.hid BB_
              clear s1_ s2_ ML_ MO_ MM_ BB_
              have p1 : (wr.alloc (.cells #[.int .i64 q.x, .int .i64 q.y] 25)).cell? ⟨wr.heap.size, 0, none⟩ = some (.int .i64 q.x) := by simp [go_sem]
              have p2 : (wr.alloc (.cells #[.int .i64 q.x, .int .i64 q.y] 25)).cell? ⟨wr.heap.size, 1, none⟩ = some (.int .i64 q.y) := by simp [go_sem]
              refine (impl_HeardSpread_any A' c' L B' d' O q _ ML.out MO.out (by omega) (by omega)).mono ?_
              rintro e w27 ⟨he, hq⟩
              rw [HSV.out, HEN.out] at he
              subst he
              have s1_ := keep1 hq s1
              have s2_ := keep1 hq s2
              have p1_ := keep1 hq p1
              have p2_ := keep1 hq p2
              have ML_ := ML.out.below hq
              have MO_ := MO.out.below hq
              have MM_ := MM.out.below hq
              have BB_ := Below.next hq BB.out BB.out.size
              clear s1 s2 p1 p2 ML MO MM BB hq
              have s1 := s1_
              have s2 := s2_
              have p1 := p1_
              have p2 := p2_
              have ML := Lib.hid ML_
              have MO := Lib.hid MO_
              have MM := Lib.hid MM_
              have BB := Lib.hid BB_
              clear s1_ s2_ p1_ p2_ ML_ MO_ MM_ BB_
              go_wp2_with fail
              refine (spec_HeardSpread_any A' c' L B' d' O q _ ML.out MO.out (by omega) (by omega)).mono ?_
              rintro e w28 ⟨he, hq⟩
              rw [HSV.out, HEN.out] at he
              subst he
              have s1_ := keep1 hq s1
              have s2_ := keep1 hq s2
              have p1_ := keep1 hq p1
              have p2_ := keep1 hq p2
              have ML_ := ML.out.below hq
              have MO_ := MO.out.below hq
              have MM_ := MM.out.below hq
              have BB_ := Below.next hq BB.out BB.out.size
              clear s1 s2 p1 p2 ML MO MM BB hq
              have s1 := s1_
              have s2 := s2_
              have p1 := p1_
              have p2 := p2_
              have ML := Lib.hid ML_
              have MO := Lib.hid MO_
              have MM := Lib.hid MM_
              have BB := Lib.hid BB_
              clear s1_ s2_ p1_ p2_ ML_ MO_ MM_ BB_
              by_cases hkj0 : k = j
              · skip
                have hc := J4.out hkj0
                subst hc
                subst hkj0
                go_wp2
                go_roundw
                case rel => exact ⟨k + 1, by omega, by go_num, BB.out, ML, MO, MM⟩
                case measure => simp [intOf]; omega
              have hkj : ((k : Int) == (j : Int)) = false := beq_eq_false_iff_ne.2 (by omega)
              by_cases hc : sv = wb
              · skip
                have hjk := J3.out hc
                subst hc
                go_wp2
                go_roundw
                case rel => exact ⟨k + 1, by omega, by go_num, BB.out, ML, MO, MM⟩
                case measure => simp [intOf]; omega
              · skip
                have hc' : (sv == wb) = false := beq_eq_false_iff_ne.2 hc
                go_wp2
                go_roundw
                case rel => exact ⟨k + 1, by omega, by go_num, BB.out, ML, MO, MM⟩
                case measure => simp [intOf]; omega
            · skip
              go_wp2
              go_ret
              exact ⟨rfl, BB.out⟩
end Go.Proofs.Ytdipmjflgjlfeaa
