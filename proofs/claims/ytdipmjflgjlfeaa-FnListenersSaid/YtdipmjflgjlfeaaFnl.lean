/-
  FnListeners: the walk.
-/
import Derived.Test.YtdipmjflgjlfeaaLwt
import Derived.Test.YtdipmjflgjlfeaaDru
import Derived.Test.YtdipmjflgjlfeaaFnp
import Derived.Deep.DeepCutAuto
import Derived.Lib.QuietBelow
namespace Go.Proofs.Ytdipmjflgjlfeaa
open Go.RowKit Go.Sort

theorem htV_len (L : List Sp) (O : List Int) (a : Sp) : (htV L O a).length ≤ L.length := by
  unfold htV
  split
  · unfold heard
    rw [List.length_zipWith, times_len]
    omega
  · simp
theorem cfV_len (L : List Sp) (a : Sp) : (cfV L a).length ≤ L.length := by
  unfold cfV
  split
  · rw [corr_len]; omega
  · simp
theorem laV_len (L : List Sp) (O : List Int) (a : Sp) (m : Int) : (laV L O a m).length ≤ L.length := by
  unfold laV
  split
  · refine Nat.le_trans (late_len _ _ _) ?_
    unfold heard
    rw [List.length_zipWith, times_len]
    omega
  · simp
theorem shV_len (O : List Int) (b : Int) : (shV O b).length ≤ O.length := by
  unfold shV
  split
  · rw [shiftd_len]; omega
  · simp

set_option maxRecDepth 100000 in
set_option maxHeartbeats 4000000 in
theorem FnListeners_walk (A0 : Option Addr) (c0 : Nat) (L0 : List Int) (A1 : Option Addr) (c1 : Nat) (L1 : List Int) (W : World) (m0 : Mem W A0 (L0.flatMap fun n => [Value.int .u8 n])) (k0 : ∀ x ∈ L0, okByte x) (l0 : L0.length ≤ c0) (n0 : c0 ≤ maxLen)
    (m1 : Mem W A1 (L1.flatMap fun n => [Value.int .u8 n])) (k1 : ∀ x ∈ L1, okByte x) (l1 : L1.length ≤ c1) (n1 : c1 ≤ maxLen) :
    Calls Try.prog 5 #[.slice A0 L0.length c0, .slice A1 L1.length c1] W fun e W' => e = .returned (.bool true) ∧ Below W.heap.size W W' := by
  have K0 := Lib.hid (code_of m0 k0 l0 n0)
  have K1 := Lib.hid (code_of m1 k1 l1 n1)
  unfold maxLen at n0 n1
  have q0 : L0.length ≤ 9223372036854775807 := by omega
  have BB := Lib.hid (Below.refl W.heap.size W)
  clear m0 k0 m1 k1
  clear l0 n0 l1 n1
  by_cases hbig : 1048576 < wrap64 (↑L0.length + ↑L1.length)
  · go_enter Try.func5, Try.ntmps5
    go_wp2
    go_ret
    exact ⟨rfl, BB.out⟩
  go_enter Try.func5, Try.ntmps5
  go_wp2_with fail
  clear hbig
  refine (drawHeardTimes_any _ _ _ _ K0.out).mono ?_
  rintro e w1 ⟨A', c', L, B', d', O, x, y, rfl, ⟨ho, hl, hL⟩, hm, ⟨hol, hoo⟩, hsm, hq⟩
  clear hL hsm hoo
  have ML_n := Lib.hid (Mem.of_own ho)
  have MO_n := Lib.hid hm.mem
  clear ho hm
  have BB_ := Below.next hq BB.out BB.out.size
  clear BB hq
  have BB := Lib.hid BB_
  clear BB_
  have ML := ML_n
  have MO := MO_n
  clear ML_n MO_n
  have hq : Below w1.heap.size w1 (w1.alloc (.cells #[.int .i64 x, .int .i64 y] 25)) := (Below.refl _ _).alloc (Nat.le_refl _) _
  have ML_ := ML.out.below hq
  have MO_ := MO.out.below hq
  have BB_ := Below.next hq BB.out BB.out.size
  clear ML MO BB hq
  have ML := Lib.hid ML_
  have MO := Lib.hid MO_
  have BB := Lib.hid BB_
  clear ML_ MO_ BB_
  have p1 : (w1.alloc (.cells #[.int .i64 x, .int .i64 y] 25)).cell? ⟨w1.heap.size, 0, none⟩ = some (.int .i64 x) := by simp [go_sem]
  have p2 : (w1.alloc (.cells #[.int .i64 x, .int .i64 y] 25)).cell? ⟨w1.heap.size, 1, none⟩ = some (.int .i64 y) := by simp [go_sem]
  obtain ⟨V, h_V⟩ : ∃ v, htV L O ⟨x, y⟩ = v := ⟨_, rfl⟩
  have HV := Lib.hid h_V
  clear h_V
  obtain ⟨ok, h_ok⟩ : ∃ v, (entOk L O && isSp ⟨x, y⟩) = v := ⟨_, rfl⟩
  have HK := Lib.hid h_ok
  clear h_ok
  obtain ⟨hs, h_hs⟩ : ∃ v, hsprV L O ⟨x, y⟩ = v := ⟨_, rfl⟩
  have HS := Lib.hid h_hs
  clear h_hs
  have hVb : V.length ≤ 1048576 := by rw [← HV.out]; exact Nat.le_trans (htV_len _ _ _) (by omega)
  go_wp2_with fail
  refine (impl_HeardTimes_any A' c' L B' d' O ⟨x, y⟩ _ ML.out MO.out (by omega) (by omega)).mono ?_
  rintro e w2 ⟨VMA, VMc, he, ho, hq⟩
  rw [HV.out, HK.out] at he
  rw [HV.out] at ho
  subst he
  have VM_n := Lib.hid (Mem.of_own ho)
  clear ho
  have p1_ := keep1 hq p1
  have p2_ := keep1 hq p2
  have ML_ := ML.out.below hq
  have MO_ := MO.out.below hq
  have BB_ := Below.next hq BB.out BB.out.size
  clear p1 p2 ML MO BB hq
  have p1 := p1_
  have p2 := p2_
  have ML := Lib.hid ML_
  have MO := Lib.hid MO_
  have BB := Lib.hid BB_
  clear p1_ p2_ ML_ MO_ BB_
  have VM := VM_n
  clear VM_n
  go_wp2_with fail
  refine (spec_HeardTimes_any A' c' L B' d' O ⟨x, y⟩ _ ML.out MO.out (by omega) (by omega)).mono ?_
  rintro e w3 ⟨VNA, VNc, he, ho, hq⟩
  rw [HV.out, HK.out] at he
  rw [HV.out] at ho
  subst he
  have VN_n := Lib.hid (Mem.of_own ho)
  clear ho
  have p1_ := keep1 hq p1
  have p2_ := keep1 hq p2
  have ML_ := ML.out.below hq
  have MO_ := MO.out.below hq
  have VM_ := VM.out.below hq
  have BB_ := Below.next hq BB.out BB.out.size
  clear p1 p2 ML MO VM BB hq
  have p1 := p1_
  have p2 := p2_
  have ML := Lib.hid ML_
  have MO := Lib.hid MO_
  have VM := Lib.hid VM_
  have BB := Lib.hid BB_
  clear p1_ p2_ ML_ MO_ VM_ BB_
  have VN := VN_n
  clear VN_n
  go_wp2_with fail
  refine (impl_HeardSpread_any A' c' L B' d' O ⟨x, y⟩ _ ML.out MO.out (by omega) (by omega)).mono ?_
  rintro e w4 ⟨he, hq⟩
  rw [HS.out, HK.out] at he
  subst he
  have p1_ := keep1 hq p1
  have p2_ := keep1 hq p2
  have ML_ := ML.out.below hq
  have MO_ := MO.out.below hq
  have VM_ := VM.out.below hq
  have VN_ := VN.out.below hq
  have BB_ := Below.next hq BB.out BB.out.size
  clear p1 p2 ML MO VM VN BB hq
  have p1 := p1_
  have p2 := p2_
  have ML := Lib.hid ML_
  have MO := Lib.hid MO_
  have VM := Lib.hid VM_
  have VN := Lib.hid VN_
  have BB := Lib.hid BB_
  clear p1_ p2_ ML_ MO_ VM_ VN_ BB_
  go_wp2_with fail
  refine (spec_HeardSpread_any A' c' L B' d' O ⟨x, y⟩ _ ML.out MO.out (by omega) (by omega)).mono ?_
  rintro e w5 ⟨he, hq⟩
  rw [HS.out, HK.out] at he
  subst he
  have p1_ := keep1 hq p1
  have p2_ := keep1 hq p2
  have ML_ := ML.out.below hq
  have MO_ := MO.out.below hq
  have VM_ := VM.out.below hq
  have VN_ := VN.out.below hq
  have BB_ := Below.next hq BB.out BB.out.size
  clear p1 p2 ML MO VM VN BB hq
  have p1 := p1_
  have p2 := p2_
  have ML := Lib.hid ML_
  have MO := Lib.hid MO_
  have VM := Lib.hid VM_
  have VN := Lib.hid VN_
  have BB := Lib.hid BB_
  clear p1_ p2_ ML_ MO_ VM_ VN_ BB_
  go_wp2_with fail
  refine (drawCorrectedFor_any _ _ _ _ (K1.out.below BB.out)).mono ?_
  rintro e w6 ⟨A2, c2, M, x2, y2, rfl, ⟨ho, hl2, hL⟩, hsm, hq⟩
  clear hL hsm
  have MM_n := Lib.hid (Mem.of_own ho)
  clear ho
  have p1_ := keep1 hq p1
  have p2_ := keep1 hq p2
  have ML_ := ML.out.below hq
  have MO_ := MO.out.below hq
  have VM_ := VM.out.below hq
  have VN_ := VN.out.below hq
  have BB_ := Below.next hq BB.out BB.out.size
  clear p1 p2 ML MO VM VN BB hq
  have p1 := p1_
  have p2 := p2_
  have ML := Lib.hid ML_
  have MO := Lib.hid MO_
  have VM := Lib.hid VM_
  have VN := Lib.hid VN_
  have BB := Lib.hid BB_
  clear p1_ p2_ ML_ MO_ VM_ VN_ BB_
  have MM := MM_n
  clear MM_n
  have hq : Below w6.heap.size w6 (w6.alloc (.cells #[.int .i64 x2, .int .i64 y2] 25)) := (Below.refl _ _).alloc (Nat.le_refl _) _
  have p1_ := keep1 hq p1
  have p2_ := keep1 hq p2
  have ML_ := ML.out.below hq
  have MO_ := MO.out.below hq
  have VM_ := VM.out.below hq
  have VN_ := VN.out.below hq
  have MM_ := MM.out.below hq
  have BB_ := Below.next hq BB.out BB.out.size
  clear p1 p2 ML MO VM VN MM BB hq
  have p1 := p1_
  have p2 := p2_
  have ML := Lib.hid ML_
  have MO := Lib.hid MO_
  have VM := Lib.hid VM_
  have VN := Lib.hid VN_
  have MM := Lib.hid MM_
  have BB := Lib.hid BB_
  clear p1_ p2_ ML_ MO_ VM_ VN_ MM_ BB_
  have p3 : (w6.alloc (.cells #[.int .i64 x2, .int .i64 y2] 25)).cell? ⟨w6.heap.size, 0, none⟩ = some (.int .i64 x2) := by simp [go_sem]
  have p4 : (w6.alloc (.cells #[.int .i64 x2, .int .i64 y2] 25)).cell? ⟨w6.heap.size, 1, none⟩ = some (.int .i64 y2) := by simp [go_sem]
  obtain ⟨C, h_C⟩ : ∃ v, cfV M ⟨x2, y2⟩ = v := ⟨_, rfl⟩
  have HC := Lib.hid h_C
  clear h_C
  obtain ⟨ok3, h_ok3⟩ : ∃ v, cfOk M ⟨x2, y2⟩ = v := ⟨_, rfl⟩
  have HK3 := Lib.hid h_ok3
  clear h_ok3
  have hCb : C.length ≤ 1048576 := by rw [← HC.out]; exact Nat.le_trans (cfV_len _ _) (by omega)
  go_wp2_with fail
  refine (impl_CorrectedFor_any A2 c2 M ⟨x2, y2⟩ _ MM.out (by omega)).mono ?_
  rintro e w7 ⟨CMA, CMc, he, ho, hq⟩
  rw [HC.out, HK3.out] at he
  rw [HC.out] at ho
  subst he
  have CM_n := Lib.hid (Mem.of_own ho)
  clear ho
  have p1_ := keep1 hq p1
  have p2_ := keep1 hq p2
  have p3_ := keep1 hq p3
  have p4_ := keep1 hq p4
  have ML_ := ML.out.below hq
  have MO_ := MO.out.below hq
  have VM_ := VM.out.below hq
  have VN_ := VN.out.below hq
  have MM_ := MM.out.below hq
  have BB_ := Below.next hq BB.out BB.out.size
  clear p1 p2 p3 p4 ML MO VM VN MM BB hq
  have p1 := p1_
  have p2 := p2_
  have p3 := p3_
  have p4 := p4_
  have ML := Lib.hid ML_
  have MO := Lib.hid MO_
  have VM := Lib.hid VM_
  have VN := Lib.hid VN_
  have MM := Lib.hid MM_
  have BB := Lib.hid BB_
  clear p1_ p2_ p3_ p4_ ML_ MO_ VM_ VN_ MM_ BB_
  have CM := CM_n
  clear CM_n
  go_wp2_with fail
  refine (spec_CorrectedFor_any A2 c2 M ⟨x2, y2⟩ _ MM.out (by omega)).mono ?_
  rintro e w8 ⟨CNA, CNc, he, ho, hq⟩
  rw [HC.out, HK3.out] at he
  rw [HC.out] at ho
  subst he
  have CN_n := Lib.hid (Mem.of_own ho)
  clear ho
  have p1_ := keep1 hq p1
  have p2_ := keep1 hq p2
  have p3_ := keep1 hq p3
  have p4_ := keep1 hq p4
  have ML_ := ML.out.below hq
  have MO_ := MO.out.below hq
  have VM_ := VM.out.below hq
  have VN_ := VN.out.below hq
  have MM_ := MM.out.below hq
  have CM_ := CM.out.below hq
  have BB_ := Below.next hq BB.out BB.out.size
  clear p1 p2 p3 p4 ML MO VM VN MM CM BB hq
  have p1 := p1_
  have p2 := p2_
  have p3 := p3_
  have p4 := p4_
  have ML := Lib.hid ML_
  have MO := Lib.hid MO_
  have VM := Lib.hid VM_
  have VN := Lib.hid VN_
  have MM := Lib.hid MM_
  have CM := Lib.hid CM_
  have BB := Lib.hid BB_
  clear p1_ p2_ p3_ p4_ ML_ MO_ VM_ VN_ MM_ CM_ BB_
  have CN := CN_n
  clear CN_n
  go_wp2_with fail
  refine (drawLateAt_any _ _ _ _ (K1.out.below BB.out)).mono ?_
  rintro e w9 ⟨A3, c3, U, B3, d3, D, x3, y3, m, rfl, ⟨ho, hl3, hL⟩, hm, ⟨hol3, hoo⟩, hsm, m0, m1, hq⟩
  clear hL hsm hoo
  have MU_n := Lib.hid (Mem.of_own ho)
  have MD_n := Lib.hid hm.mem
  clear ho hm
  have p1_ := keep1 hq p1
  have p2_ := keep1 hq p2
  have p3_ := keep1 hq p3
  have p4_ := keep1 hq p4
  have ML_ := ML.out.below hq
  have MO_ := MO.out.below hq
  have VM_ := VM.out.below hq
  have VN_ := VN.out.below hq
  have MM_ := MM.out.below hq
  have CM_ := CM.out.below hq
  have CN_ := CN.out.below hq
  have BB_ := Below.next hq BB.out BB.out.size
  clear p1 p2 p3 p4 ML MO VM VN MM CM CN BB hq
  have p1 := p1_
  have p2 := p2_
  have p3 := p3_
  have p4 := p4_
  have ML := Lib.hid ML_
  have MO := Lib.hid MO_
  have VM := Lib.hid VM_
  have VN := Lib.hid VN_
  have MM := Lib.hid MM_
  have CM := Lib.hid CM_
  have CN := Lib.hid CN_
  have BB := Lib.hid BB_
  clear p1_ p2_ p3_ p4_ ML_ MO_ VM_ VN_ MM_ CM_ CN_ BB_
  have MU := MU_n
  have MD := MD_n
  clear MU_n MD_n
  have hq : Below w9.heap.size w9 (w9.alloc (.cells #[.int .i64 x3, .int .i64 y3] 25)) := (Below.refl _ _).alloc (Nat.le_refl _) _
  have p1_ := keep1 hq p1
  have p2_ := keep1 hq p2
  have p3_ := keep1 hq p3
  have p4_ := keep1 hq p4
  have ML_ := ML.out.below hq
  have MO_ := MO.out.below hq
  have VM_ := VM.out.below hq
  have VN_ := VN.out.below hq
  have MM_ := MM.out.below hq
  have CM_ := CM.out.below hq
  have CN_ := CN.out.below hq
  have MU_ := MU.out.below hq
  have MD_ := MD.out.below hq
  have BB_ := Below.next hq BB.out BB.out.size
  clear p1 p2 p3 p4 ML MO VM VN MM CM CN MU MD BB hq
  have p1 := p1_
  have p2 := p2_
  have p3 := p3_
  have p4 := p4_
  have ML := Lib.hid ML_
  have MO := Lib.hid MO_
  have VM := Lib.hid VM_
  have VN := Lib.hid VN_
  have MM := Lib.hid MM_
  have CM := Lib.hid CM_
  have CN := Lib.hid CN_
  have MU := Lib.hid MU_
  have MD := Lib.hid MD_
  have BB := Lib.hid BB_
  clear p1_ p2_ p3_ p4_ ML_ MO_ VM_ VN_ MM_ CM_ CN_ MU_ MD_ BB_
  have p5 : (w9.alloc (.cells #[.int .i64 x3, .int .i64 y3] 25)).cell? ⟨w9.heap.size, 0, none⟩ = some (.int .i64 x3) := by simp [go_sem]
  have p6 : (w9.alloc (.cells #[.int .i64 x3, .int .i64 y3] 25)).cell? ⟨w9.heap.size, 1, none⟩ = some (.int .i64 y3) := by simp [go_sem]
  obtain ⟨T, h_T⟩ : ∃ v, laV U D ⟨x3, y3⟩ m = v := ⟨_, rfl⟩
  have HT := Lib.hid h_T
  clear h_T
  obtain ⟨ok5, h_ok5⟩ : ∃ v, ((entOk U D && isSp ⟨x3, y3⟩) && inR m 0 4000) = v := ⟨_, rfl⟩
  have HK5 := Lib.hid h_ok5
  clear h_ok5
  have hTb : T.length ≤ 1048576 := by rw [← HT.out]; exact Nat.le_trans (laV_len _ _ _ _) (by omega)
  go_wp2_with fail
  refine (impl_LateAt_any A3 c3 U B3 d3 D ⟨x3, y3⟩ m _ MU.out MD.out (by omega) (by omega)).mono ?_
  rintro e w10 ⟨TMA, TMc, he, ho, hq⟩
  rw [HT.out, HK5.out] at he
  rw [HT.out] at ho
  subst he
  have TM_n := Lib.hid (Mem.of_own ho)
  clear ho
  have p1_ := keep1 hq p1
  have p2_ := keep1 hq p2
  have p3_ := keep1 hq p3
  have p4_ := keep1 hq p4
  have p5_ := keep1 hq p5
  have p6_ := keep1 hq p6
  have ML_ := ML.out.below hq
  have MO_ := MO.out.below hq
  have VM_ := VM.out.below hq
  have VN_ := VN.out.below hq
  have MM_ := MM.out.below hq
  have CM_ := CM.out.below hq
  have CN_ := CN.out.below hq
  have MU_ := MU.out.below hq
  have MD_ := MD.out.below hq
  have BB_ := Below.next hq BB.out BB.out.size
  clear p1 p2 p3 p4 p5 p6 ML MO VM VN MM CM CN MU MD BB hq
  have p1 := p1_
  have p2 := p2_
  have p3 := p3_
  have p4 := p4_
  have p5 := p5_
  have p6 := p6_
  have ML := Lib.hid ML_
  have MO := Lib.hid MO_
  have VM := Lib.hid VM_
  have VN := Lib.hid VN_
  have MM := Lib.hid MM_
  have CM := Lib.hid CM_
  have CN := Lib.hid CN_
  have MU := Lib.hid MU_
  have MD := Lib.hid MD_
  have BB := Lib.hid BB_
  clear p1_ p2_ p3_ p4_ p5_ p6_ ML_ MO_ VM_ VN_ MM_ CM_ CN_ MU_ MD_ BB_
  have TM := TM_n
  clear TM_n
  go_wp2_with fail
  refine (spec_LateAt_any A3 c3 U B3 d3 D ⟨x3, y3⟩ m _ MU.out MD.out (by omega) (by omega)).mono ?_
  rintro e w11 ⟨TNA, TNc, he, ho, hq⟩
  rw [HT.out, HK5.out] at he
  rw [HT.out] at ho
  subst he
  have TN_n := Lib.hid (Mem.of_own ho)
  clear ho
  have p1_ := keep1 hq p1
  have p2_ := keep1 hq p2
  have p3_ := keep1 hq p3
  have p4_ := keep1 hq p4
  have p5_ := keep1 hq p5
  have p6_ := keep1 hq p6
  have ML_ := ML.out.below hq
  have MO_ := MO.out.below hq
  have VM_ := VM.out.below hq
  have VN_ := VN.out.below hq
  have MM_ := MM.out.below hq
  have CM_ := CM.out.below hq
  have CN_ := CN.out.below hq
  have MU_ := MU.out.below hq
  have MD_ := MD.out.below hq
  have TM_ := TM.out.below hq
  have BB_ := Below.next hq BB.out BB.out.size
  clear p1 p2 p3 p4 p5 p6 ML MO VM VN MM CM CN MU MD TM BB hq
  have p1 := p1_
  have p2 := p2_
  have p3 := p3_
  have p4 := p4_
  have p5 := p5_
  have p6 := p6_
  have ML := Lib.hid ML_
  have MO := Lib.hid MO_
  have VM := Lib.hid VM_
  have VN := Lib.hid VN_
  have MM := Lib.hid MM_
  have CM := Lib.hid CM_
  have CN := Lib.hid CN_
  have MU := Lib.hid MU_
  have MD := Lib.hid MD_
  have TM := Lib.hid TM_
  have BB := Lib.hid BB_
  clear p1_ p2_ p3_ p4_ p5_ p6_ ML_ MO_ VM_ VN_ MM_ CM_ CN_ MU_ MD_ TM_ BB_
  have TN := TN_n
  clear TN_n
  go_wp2_with fail
  refine (drawAreOffsets_any _ _ _ _ (K1.out.below BB.out)).mono ?_
  rintro e w12 ⟨B4, d4, E, rfl, hm, ⟨hol4, hoo⟩, hq⟩
  clear hoo
  have ME_n := Lib.hid hm.mem
  clear hm
  have p1_ := keep1 hq p1
  have p2_ := keep1 hq p2
  have p3_ := keep1 hq p3
  have p4_ := keep1 hq p4
  have p5_ := keep1 hq p5
  have p6_ := keep1 hq p6
  have ML_ := ML.out.below hq
  have MO_ := MO.out.below hq
  have VM_ := VM.out.below hq
  have VN_ := VN.out.below hq
  have MM_ := MM.out.below hq
  have CM_ := CM.out.below hq
  have CN_ := CN.out.below hq
  have MU_ := MU.out.below hq
  have MD_ := MD.out.below hq
  have TM_ := TM.out.below hq
  have TN_ := TN.out.below hq
  have BB_ := Below.next hq BB.out BB.out.size
  clear p1 p2 p3 p4 p5 p6 ML MO VM VN MM CM CN MU MD TM TN BB hq
  have p1 := p1_
  have p2 := p2_
  have p3 := p3_
  have p4 := p4_
  have p5 := p5_
  have p6 := p6_
  have ML := Lib.hid ML_
  have MO := Lib.hid MO_
  have VM := Lib.hid VM_
  have VN := Lib.hid VN_
  have MM := Lib.hid MM_
  have CM := Lib.hid CM_
  have CN := Lib.hid CN_
  have MU := Lib.hid MU_
  have MD := Lib.hid MD_
  have TM := Lib.hid TM_
  have TN := Lib.hid TN_
  have BB := Lib.hid BB_
  clear p1_ p2_ p3_ p4_ p5_ p6_ ML_ MO_ VM_ VN_ MM_ CM_ CN_ MU_ MD_ TM_ TN_ BB_
  have ME := ME_n
  clear ME_n
  obtain ⟨oo, h_oo⟩ : ∃ v, offOk E = v := ⟨_, rfl⟩
  have HOO := Lib.hid h_oo
  clear h_oo
  go_wp2_with fail
  refine (qInts_same _ _ _ _ V _ VM.out VN.out hVb).mono ?_
  rintro e w13 ⟨rfl, hq⟩
  have p1_ := keep1 hq p1
  have p2_ := keep1 hq p2
  have p3_ := keep1 hq p3
  have p4_ := keep1 hq p4
  have p5_ := keep1 hq p5
  have p6_ := keep1 hq p6
  have ML_ := ML.out.below hq
  have MO_ := MO.out.below hq
  have VM_ := VM.out.below hq
  have VN_ := VN.out.below hq
  have MM_ := MM.out.below hq
  have CM_ := CM.out.below hq
  have CN_ := CN.out.below hq
  have MU_ := MU.out.below hq
  have MD_ := MD.out.below hq
  have TM_ := TM.out.below hq
  have TN_ := TN.out.below hq
  have ME_ := ME.out.below hq
  have BB_ := Below.next hq BB.out BB.out.size
  clear p1 p2 p3 p4 p5 p6 ML MO VM VN MM CM CN MU MD TM TN ME BB hq
  have p1 := p1_
  have p2 := p2_
  have p3 := p3_
  have p4 := p4_
  have p5 := p5_
  have p6 := p6_
  have ML := Lib.hid ML_
  have MO := Lib.hid MO_
  have VM := Lib.hid VM_
  have VN := Lib.hid VN_
  have MM := Lib.hid MM_
  have CM := Lib.hid CM_
  have CN := Lib.hid CN_
  have MU := Lib.hid MU_
  have MD := Lib.hid MD_
  have TM := Lib.hid TM_
  have TN := Lib.hid TN_
  have ME := Lib.hid ME_
  have BB := Lib.hid BB_
  clear p1_ p2_ p3_ p4_ p5_ p6_ ML_ MO_ VM_ VN_ MM_ CM_ CN_ MU_ MD_ TM_ TN_ ME_ BB_
  go_wp2_with fail
  refine (qInts_same _ _ _ _ C _ CM.out CN.out hCb).mono ?_
  rintro e w14 ⟨rfl, hq⟩
  have p1_ := keep1 hq p1
  have p2_ := keep1 hq p2
  have p3_ := keep1 hq p3
  have p4_ := keep1 hq p4
  have p5_ := keep1 hq p5
  have p6_ := keep1 hq p6
  have ML_ := ML.out.below hq
  have MO_ := MO.out.below hq
  have VM_ := VM.out.below hq
  have VN_ := VN.out.below hq
  have MM_ := MM.out.below hq
  have CM_ := CM.out.below hq
  have CN_ := CN.out.below hq
  have MU_ := MU.out.below hq
  have MD_ := MD.out.below hq
  have TM_ := TM.out.below hq
  have TN_ := TN.out.below hq
  have ME_ := ME.out.below hq
  have BB_ := Below.next hq BB.out BB.out.size
  clear p1 p2 p3 p4 p5 p6 ML MO VM VN MM CM CN MU MD TM TN ME BB hq
  have p1 := p1_
  have p2 := p2_
  have p3 := p3_
  have p4 := p4_
  have p5 := p5_
  have p6 := p6_
  have ML := Lib.hid ML_
  have MO := Lib.hid MO_
  have VM := Lib.hid VM_
  have VN := Lib.hid VN_
  have MM := Lib.hid MM_
  have CM := Lib.hid CM_
  have CN := Lib.hid CN_
  have MU := Lib.hid MU_
  have MD := Lib.hid MD_
  have TM := Lib.hid TM_
  have TN := Lib.hid TN_
  have ME := Lib.hid ME_
  have BB := Lib.hid BB_
  clear p1_ p2_ p3_ p4_ p5_ p6_ ML_ MO_ VM_ VN_ MM_ CM_ CN_ MU_ MD_ TM_ TN_ ME_ BB_
  go_wp2_with fail
  refine (qInts_same _ _ _ _ T _ TM.out TN.out hTb).mono ?_
  rintro e w15 ⟨rfl, hq⟩
  have p1_ := keep1 hq p1
  have p2_ := keep1 hq p2
  have p3_ := keep1 hq p3
  have p4_ := keep1 hq p4
  have p5_ := keep1 hq p5
  have p6_ := keep1 hq p6
  have ML_ := ML.out.below hq
  have MO_ := MO.out.below hq
  have VM_ := VM.out.below hq
  have VN_ := VN.out.below hq
  have MM_ := MM.out.below hq
  have CM_ := CM.out.below hq
  have CN_ := CN.out.below hq
  have MU_ := MU.out.below hq
  have MD_ := MD.out.below hq
  have TM_ := TM.out.below hq
  have TN_ := TN.out.below hq
  have ME_ := ME.out.below hq
  have BB_ := Below.next hq BB.out BB.out.size
  clear p1 p2 p3 p4 p5 p6 ML MO VM VN MM CM CN MU MD TM TN ME BB hq
  have p1 := p1_
  have p2 := p2_
  have p3 := p3_
  have p4 := p4_
  have p5 := p5_
  have p6 := p6_
  have ML := Lib.hid ML_
  have MO := Lib.hid MO_
  have VM := Lib.hid VM_
  have VN := Lib.hid VN_
  have MM := Lib.hid MM_
  have CM := Lib.hid CM_
  have CN := Lib.hid CN_
  have MU := Lib.hid MU_
  have MD := Lib.hid MD_
  have TM := Lib.hid TM_
  have TN := Lib.hid TN_
  have ME := Lib.hid ME_
  have BB := Lib.hid BB_
  clear p1_ p2_ p3_ p4_ p5_ p6_ ML_ MO_ VM_ VN_ MM_ CM_ CN_ MU_ MD_ TM_ TN_ ME_ BB_
  go_wp2_with fail
  refine (impl_AreOffsets_any B4 d4 E _ ME.out (by omega)).mono ?_
  rintro e _ ⟨he, rfl⟩
  rw [HOO.out] at he
  subst he
  go_wp2_with fail
  refine (spec_AreOffsets_any B4 d4 E _ ME.out (by omega)).mono ?_
  rintro e _ ⟨he, rfl⟩
  rw [HOO.out] at he
  subst he
  go_upto_if 195 with (fail)
  go_cut [] (fun wx => Below W.heap.size W wx ∧ Hid (Mem wx A' (spots L)) ∧ Hid (Mem wx B' (ints O)) ∧ Hid (Mem wx VNA (ints V)) ∧ Hid (Mem wx A3 (spots U)) ∧ Hid (Mem wx B3 (ints D)) ∧ Hid (Mem wx TNA (ints T)) ∧ wx.cell? ⟨w1.heap.size, 0, none⟩ = some (.int .i64 x) ∧ wx.cell? ⟨w1.heap.size, 1, none⟩ = some (.int .i64 y) ∧ wx.cell? ⟨w9.heap.size, 0, none⟩ = some (.int .i64 x3) ∧ wx.cell? ⟨w9.heap.size, 1, none⟩ = some (.int .i64 y3))
  case first => as_aux_lemma =>
    cases ok3
    · go_wp2
      go_meet
      exact ⟨BB.out, ML, MO, VN, MU, MD, TN, p1, p2, p5, p6⟩
    obtain ⟨C', hC', hent, hsp0, hle, hin, hCl⟩ := corr_facts HK3.out
    obtain rfl : C' = C := hC'.symm.trans HC.out
    have HENT := Lib.hid hent
    have HSP0 := Lib.hid hsp0
    have HLE := Lib.hid hle
    have HIN := Lib.hid hin
    clear hC' hent hsp0 hle hin
    go_wp2_with fail
    refine (impl_HeardSpread_any A2 c2 M CMA CMc C' ⟨x2, y2⟩ _ MM.out CM.out (by omega) (by omega)).mono ?_
    rintro e w16 ⟨he, hq⟩
    rw [HSP0.out, HENT.out] at he
    subst he
    have p1_ := keep1 hq p1
    have p2_ := keep1 hq p2
    have p3_ := keep1 hq p3
    have p4_ := keep1 hq p4
    have p5_ := keep1 hq p5
    have p6_ := keep1 hq p6
    have ML_ := ML.out.below hq
    have MO_ := MO.out.below hq
    have VM_ := VM.out.below hq
    have VN_ := VN.out.below hq
    have MM_ := MM.out.below hq
    have CM_ := CM.out.below hq
    have CN_ := CN.out.below hq
    have MU_ := MU.out.below hq
    have MD_ := MD.out.below hq
    have TM_ := TM.out.below hq
    have TN_ := TN.out.below hq
    have ME_ := ME.out.below hq
    have BB_ := Below.next hq BB.out BB.out.size
    clear p1 p2 p3 p4 p5 p6 ML MO VM VN MM CM CN MU MD TM TN ME BB hq
    have p1 := p1_
    have p2 := p2_
    have p3 := p3_
    have p4 := p4_
    have p5 := p5_
    have p6 := p6_
    have ML := Lib.hid ML_
    have MO := Lib.hid MO_
    have VM := Lib.hid VM_
    have VN := Lib.hid VN_
    have MM := Lib.hid MM_
    have CM := Lib.hid CM_
    have CN := Lib.hid CN_
    have MU := Lib.hid MU_
    have MD := Lib.hid MD_
    have TM := Lib.hid TM_
    have TN := Lib.hid TN_
    have ME := Lib.hid ME_
    have BB := Lib.hid BB_
    clear p1_ p2_ p3_ p4_ p5_ p6_ ML_ MO_ VM_ VN_ MM_ CM_ CN_ MU_ MD_ TM_ TN_ ME_ BB_
    go_wp2
    go_loop [33, 205] (fun z i => ∃ (k : Nat) (zb : Bool), k ≤ C'.length ∧ i = .int .i64 k ∧ z = .bool zb ∧ Hid (zb = decide ((0 : Int) ∈ C'.take k))) (fun _ i => C'.length - (intOf i).toNat)
    case atStart => exact ⟨0, false, by omega, rfl, rfl, Lib.hid (by simp)⟩
    case round =>
      obtain ⟨k, zb, hk, rfl, rfl, HZ⟩ := hrel
      by_cases hlt : k < C'.length
      · skip
        obtain ⟨n, hn⟩ := some_of_lt hlt
        obtain ⟨b, off, rfl, h1⟩ := CN.out.int hn
        have hn0 := HLE.out n (List.mem_of_getElem? hn)
        have HN := Lib.hid hn
        clear hn
        have HT1 := Lib.hid (show C'.take (k + 1) = C'.take k ++ [n] by rw [List.take_add_one, HN.out]; rfl)
        cases zb
        · by_cases hz : n = 0
          · subst hz
            go_wp2
            go_round
            case rel => exact ⟨k + 1, true, by omega, by go_num, rfl, Lib.hid (by rw [HT1.out]; simp)⟩
            case measure => simp [intOf]; omega
          · have hz' : (n == 0) = false := beq_eq_false_iff_ne.2 hz
            have HNZ := Lib.hid (fun e : (0 : Int) = n => hz e.symm)
            go_wp2
            go_round
            case rel => exact ⟨k + 1, false, by omega, by go_num, rfl, Lib.hid (by rw [HT1.out]; have := HZ.out; simp at this; simp [this]; exact HNZ.out)⟩
            case measure => simp [intOf]; omega
        · go_wp2
          go_round
          case rel => exact ⟨k + 1, true, by omega, by go_num, rfl, Lib.hid (by rw [HT1.out]; have := HZ.out; simp at this; simp [this])⟩
          case measure => simp [intOf]; omega
      · skip
        have hz : zb = true := by
          rw [HZ.out, List.take_of_length_le (by omega)]
          simp [HIN.out]
        subst hz
        go_wp2
        go_meet
        exact ⟨BB.out, ML, MO, VN, MU, MD, TN, p1, p2, p5, p6⟩
  case rest => as_aux_lemma =>
    clear BB p1 p2 p3 p4 p5 p6 ML MO VM VN MM CM CN MU MD TM TN ME
    obtain ⟨hbb, ML, MO, VN, MU, MD, TN, p1, p2, p5, p6⟩ := hcut
    have BB := Lib.hid hbb
    clear hbb
    clear HC HK3 hCb K0
    go_upto_if 227 with (fail)
    go_cut [] (fun wx => Below W.heap.size W wx ∧ Hid (Mem wx A' (spots L)) ∧ Hid (Mem wx B' (ints O)) ∧ Hid (Mem wx VNA (ints V)) ∧ wx.cell? ⟨w1.heap.size, 0, none⟩ = some (.int .i64 x) ∧ wx.cell? ⟨w1.heap.size, 1, none⟩ = some (.int .i64 y))
    case first => as_aux_lemma =>
      cases ok5
      · go_wp2
        go_meet
        exact ⟨BB.out, ML, MO, VN, p1, p2⟩
      obtain ⟨he5, hm0, hm1, V5, T', e1, e2, hv0, hv1, ht1, hvb, hmem⟩ := late_facts HK5.out
      obtain rfl : T = T' := HT.out.symm.trans e2
      have HV5 := Lib.hid e1
      have HE5 := Lib.hid he5
      have HVB := Lib.hid hvb
      have HMEM := Lib.hid hmem
      have hV5b : V5.length ≤ 1048576 := by omega
      clear e1 e2 he5 hvb hmem
      go_wp2_with fail
      refine (impl_HeardTimes_any A3 c3 U B3 d3 D ⟨x3, y3⟩ _ MU.out MD.out (by omega) (by omega)).mono ?_
      rintro e w17 ⟨WMA, WMc, he, ho, hq⟩
      rw [HV5.out, HE5.out] at he
      rw [HV5.out] at ho
      subst he
      have WM_n := Lib.hid (Mem.of_own ho)
      clear ho
      have p1_ := keep1 hq p1
      have p2_ := keep1 hq p2
      have p5_ := keep1 hq p5
      have p6_ := keep1 hq p6
      have ML_ := ML.out.below hq
      have MO_ := MO.out.below hq
      have VN_ := VN.out.below hq
      have MU_ := MU.out.below hq
      have MD_ := MD.out.below hq
      have TN_ := TN.out.below hq
      have BB_ := Below.next hq BB.out BB.out.size
      clear p1 p2 p5 p6 ML MO VN MU MD TN BB hq
      have p1 := p1_
      have p2 := p2_
      have p5 := p5_
      have p6 := p6_
      have ML := Lib.hid ML_
      have MO := Lib.hid MO_
      have VN := Lib.hid VN_
      have MU := Lib.hid MU_
      have MD := Lib.hid MD_
      have TN := Lib.hid TN_
      have BB := Lib.hid BB_
      clear p1_ p2_ p5_ p6_ ML_ MO_ VN_ MU_ MD_ TN_ BB_
      have WM := WM_n
      clear WM_n
      go_wp2_with fail
      refine (spec_HeardTimes_any A3 c3 U B3 d3 D ⟨x3, y3⟩ _ MU.out MD.out (by omega) (by omega)).mono ?_
      rintro e w18 ⟨WNA, WNc, he, ho, hq⟩
      rw [HV5.out, HE5.out] at he
      rw [HV5.out] at ho
      subst he
      have WN_n := Lib.hid (Mem.of_own ho)
      clear ho
      have p1_ := keep1 hq p1
      have p2_ := keep1 hq p2
      have p5_ := keep1 hq p5
      have p6_ := keep1 hq p6
      have ML_ := ML.out.below hq
      have MO_ := MO.out.below hq
      have VN_ := VN.out.below hq
      have MU_ := MU.out.below hq
      have MD_ := MD.out.below hq
      have TN_ := TN.out.below hq
      have WM_ := WM.out.below hq
      have BB_ := Below.next hq BB.out BB.out.size
      clear p1 p2 p5 p6 ML MO VN MU MD TN WM BB hq
      have p1 := p1_
      have p2 := p2_
      have p5 := p5_
      have p6 := p6_
      have ML := Lib.hid ML_
      have MO := Lib.hid MO_
      have VN := Lib.hid VN_
      have MU := Lib.hid MU_
      have MD := Lib.hid MD_
      have TN := Lib.hid TN_
      have WM := Lib.hid WM_
      have BB := Lib.hid BB_
      clear p1_ p2_ p5_ p6_ ML_ MO_ VN_ MU_ MD_ TN_ WM_ BB_
      have WN := WN_n
      clear WN_n
      go_wp2_with fail
      refine (qInts_same _ _ _ _ V5 _ WM.out WN.out hV5b).mono ?_
      rintro e w19 ⟨rfl, hq⟩
      have p1_ := keep1 hq p1
      have p2_ := keep1 hq p2
      have p5_ := keep1 hq p5
      have p6_ := keep1 hq p6
      have ML_ := ML.out.below hq
      have MO_ := MO.out.below hq
      have VN_ := VN.out.below hq
      have MU_ := MU.out.below hq
      have MD_ := MD.out.below hq
      have TN_ := TN.out.below hq
      have WM_ := WM.out.below hq
      have WN_ := WN.out.below hq
      have BB_ := Below.next hq BB.out BB.out.size
      clear p1 p2 p5 p6 ML MO VN MU MD TN WM WN BB hq
      have p1 := p1_
      have p2 := p2_
      have p5 := p5_
      have p6 := p6_
      have ML := Lib.hid ML_
      have MO := Lib.hid MO_
      have VN := Lib.hid VN_
      have MU := Lib.hid MU_
      have MD := Lib.hid MD_
      have TN := Lib.hid TN_
      have WM := Lib.hid WM_
      have WN := Lib.hid WN_
      have BB := Lib.hid BB_
      clear p1_ p2_ p5_ p6_ ML_ MO_ VN_ MU_ MD_ TN_ WM_ WN_ BB_
      obtain ⟨v0, hv00⟩ := some_of_lt hv0
      obtain ⟨b, off, rfl, h1⟩ := WN.out.int hv00
      have hb0 := HVB.out v0 (List.mem_of_getElem? hv00)
      have HD := Lib.hid (show V5.headD 0 = v0 by have := headD_at hv0; rw [hv00] at this; exact (Option.some.inj this).symm)
      simp only [Nat.add_zero] at h1
      clear hv00
      go_wp2
      clear h1
      go_loop [40, 259] (fun f i => ∃ (k : Nat) (fi : Int), k ≤ V5.length ∧ i = .int .i64 k ∧ f = .int .i64 fi ∧ -10000 ≤ fi ∧ fi ≤ 10302 ∧ Hid ((V5.take k).foldl min v0 = fi)) (fun _ i => V5.length - (intOf i).toNat)
      case atStart => exact ⟨0, v0, by omega, rfl, rfl, hb0.1, hb0.2, Lib.hid rfl⟩
      case round =>
        obtain ⟨k, fi, hk, rfl, rfl, fi0, fi1, HF⟩ := hrel
        by_cases hlt : k < V5.length
        · skip
          obtain ⟨n, hn⟩ := some_of_lt hlt
          obtain ⟨b2, off2, e0, h1⟩ := WN.out.int hn
          obtain ⟨rfl, rfl⟩ : b = b2 ∧ off = off2 := by simpa using e0
          have hnb := HVB.out n (List.mem_of_getElem? hn)
          have HT1 := Lib.hid (show (V5.take (k + 1)).foldl min v0 = min fi n by rw [fold_succ _ _ hn, HF.out])
          clear hn e0
          by_cases hc : n < fi
          · go_wp2
            go_round
            case rel => exact ⟨k + 1, n, by omega, by go_num, rfl, hnb.1, hnb.2, Lib.hid (by rw [HT1.out]; omega)⟩
            case measure => simp [intOf]; omega
          · go_wp2
            go_round
            case rel => exact ⟨k + 1, fi, by omega, by go_num, rfl, fi0, fi1, Lib.hid (by rw [HT1.out]; omega)⟩
            case measure => simp [intOf]; omega
        · skip
          have hlow : lowOf V5 = fi := by
            rw [← HF.out, List.take_of_length_le (by omega), lowOf, HD.out]
          have HLOW := Lib.hid hlow
          clear hlow
          go_wp2
          go_loopw [270] (fun i wr => ∃ k : Nat, k ≤ V5.length ∧ i = .int .i64 k ∧ Below W.heap.size W wr ∧ Hid (Mem wr A' (spots L)) ∧ Hid (Mem wr B' (ints O)) ∧ Hid (Mem wr VNA (ints V)) ∧ wr.cell? ⟨w1.heap.size, 0, none⟩ = some (.int .i64 x) ∧ wr.cell? ⟨w1.heap.size, 1, none⟩ = some (.int .i64 y) ∧ Hid (Mem wr TNA (ints T)) ∧ Hid (Mem wr (some ⟨b, off, none⟩) (ints V5))) (fun i _ => V5.length - (intOf i).toNat)
          case atStart => exact ⟨0, by omega, rfl, BB.out, ML, MO, VN, p1, p2, TN, WN⟩
          case round =>
            clear BB WN MD ML MO MU TN VN WM p1 p2 p5 p6
            obtain ⟨k, hk, rfl, hbb, ML, MO, VN, p1, p2, TN, WN⟩ := hrel
            have BB := Lib.hid hbb
            clear hbb
            by_cases hlt : k < V5.length
            · skip
              obtain ⟨n, hn⟩ := some_of_lt hlt
              obtain ⟨b2, off2, e0, h1⟩ := WN.out.int hn
              obtain ⟨rfl, rfl⟩ : b = b2 ∧ off = off2 := by simpa using e0
              have hnb := HVB.out n (List.mem_of_getElem? hn)
              have hiff := HMEM.out k n hn
              rw [HLOW.out] at hiff
              clear hn e0
              by_cases hc : m < n - fi
              · skip
                have HD2 := Lib.hid (show decide ((k : Int) ∈ T) = true by simp [hiff, hc])
                clear hiff
                go_wp2_with fail
                refine (qHas_any _ _ T _ _ TN.out hTb).mono ?_
                rintro e _ ⟨he, rfl⟩
                rw [HD2.out] at he
                subst he
                go_wp2
                go_roundw
                case rel => exact ⟨k + 1, by omega, by go_num, BB.out, ML, MO, VN, p1, p2, TN, WN⟩
                case measure => simp [intOf]; omega
              · skip
                have HD2 := Lib.hid (show decide ((k : Int) ∈ T) = false by simp [hiff, hc])
                clear hiff
                go_wp2_with fail
                refine (qHas_any _ _ T _ _ TN.out hTb).mono ?_
                rintro e _ ⟨he, rfl⟩
                rw [HD2.out] at he
                subst he
                go_wp2
                go_roundw
                case rel => exact ⟨k + 1, by omega, by go_num, BB.out, ML, MO, VN, p1, p2, TN, WN⟩
                case measure => simp [intOf]; omega
            · skip
              go_wp2
              go_meet
              exact ⟨BB.out, ML, MO, VN, p1, p2⟩
    case rest => as_aux_lemma =>
      clear BB ML MO VN MU MD TN p1 p2 p5 p6
      obtain ⟨hbb, ML, MO, VN, p1, p2⟩ := hcut
      have BB := Lib.hid hbb
      clear hbb
      clear HT HK5 hTb K1
      cases ok
      · go_wp2
        go_ret
        exact ⟨rfl, BB.out⟩
      obtain ⟨V', e1, _, e3, e4, e5, e6, e7, e8, e9⟩ := heard_facts HK.out
      obtain rfl : V' = V := e1.symm.trans HV.out
      rw [HS.out] at e3
      have HSPR := Lib.hid e3
      have HALL := Lib.hid e9
      have HVB := Lib.hid e8
      have H4 := Lib.hid e4
      have H5 := Lib.hid e5
      have hLV : L.length ≤ V'.length := by omega
      have hVL : V'.length ≤ L.length := by omega
      have hOV : O.length ≤ V'.length := by omega
      have hVO : V'.length ≤ O.length := by omega
      clear e1 e3 e4 e5 e8 e9
      obtain ⟨v0, hv00⟩ := some_of_lt e6
      obtain ⟨b, off, rfl, h1⟩ := VN.out.int hv00
      have hb0 := HVB.out v0 (List.mem_of_getElem? hv00)
      have HD := Lib.hid (show V'.headD 0 = v0 by have := headD_at e6; rw [hv00] at this; exact (Option.some.inj this).symm)
      simp only [Nat.add_zero] at h1
      clear hv00
      go_wp2
      go_quiet (fail)
      go_wp2
      clear h1
      go_loopw [45, 46, 295] (fun lo hi i wr => ∃ (k : Nat) (l h : Int), k ≤ V'.length ∧ i = .int .i64 k ∧ lo = .int .i64 l ∧ hi = .int .i64 h ∧ -10000 ≤ l ∧ l ≤ 10302 ∧ -10000 ≤ h ∧ h ≤ 10302 ∧ Hid ((V'.take k).foldl min v0 = l) ∧ Hid ((V'.take k).foldl max v0 = h) ∧ Below W.heap.size W wr ∧ Hid (Mem wr A' (spots L)) ∧ Hid (Mem wr B' (ints O)) ∧ wr.cell? ⟨w1.heap.size, 0, none⟩ = some (.int .i64 x) ∧ wr.cell? ⟨w1.heap.size, 1, none⟩ = some (.int .i64 y) ∧ Hid (Mem wr (some ⟨b, off, none⟩) (ints V'))) (fun _ _ i _ => V'.length - (intOf i).toNat)
      case atStart => exact ⟨0, v0, v0, by omega, rfl, rfl, rfl, hb0.1, hb0.2, hb0.1, hb0.2, Lib.hid rfl, Lib.hid rfl, Below.drewN BB.out _, ML, MO, p1, p2, VN⟩
      case round =>
        clear BB ML MO VN p1 p2
        obtain ⟨k, l, h, hk, rfl, rfl, rfl, la, lb, ha, hb, HLO, HHI, hbb, ML, MO, p1, p2, VN⟩ := hrel
        have BB := Lib.hid hbb
        clear hbb
        by_cases hlt : k < V'.length
        · skip
          obtain ⟨n, hn⟩ := some_of_lt hlt
          have hkL : k < L.length := by omega
          have hkO : k < O.length := by omega
          obtain ⟨s, hs'⟩ := some_of_lt hkL
          obtain ⟨o, ho⟩ := some_of_lt hkO
          obtain ⟨a1, a2, a3, a4, a5, a6⟩ := HALL.out k s o hs' ho
          rw [hn] at a1
          have hno := Option.some.inj a1
          obtain ⟨tv, htv⟩ : ∃ v, sndV s ⟨x, y⟩ = v := ⟨_, rfl⟩
          rw [htv] at hno a3 a4
          have HTV := Lib.hid htv
          have HG := Lib.hid a2
          have HNO := Lib.hid hno
          obtain ⟨b2, off2, e0, h1⟩ := VN.out.int hn
          obtain ⟨rfl, rfl⟩ : b = b2 ∧ off = off2 := by simpa using e0
          obtain ⟨bl, ol, rfl, d1, d2⟩ := ML.out.spot hs'
          obtain ⟨bo, oo', rfl, d3⟩ := MO.out.int ho
          have HT1 := Lib.hid (show (V'.take (k + 1)).foldl min v0 = min l n by rw [fold_succ _ _ hn, HLO.out])
          have HT2 := Lib.hid (show (V'.take (k + 1)).foldl max v0 = max h n by rw [fold_succ _ _ hn, HHI.out])
          have hnb := HVB.out n (List.mem_of_getElem? hn)
          clear a1 a2 hn hs' ho hno htv e0
          have r0 := cell_regrown (w := wr) (a := ⟨bl, ol + k * 2, none⟩) (v := .int .i64 s.x) d1
          have r1 := cell_regrown (w := wr) (a := ⟨bl, ol + k * 2 + 1, none⟩) (v := .int .i64 s.y) d2
          have r2 := cell_regrown (w := wr) (a := ⟨w1.heap.size, 0, none⟩) (v := .int .i64 x) p1
          have r3 := cell_regrown (w := wr) (a := ⟨w1.heap.size, 1, none⟩) (v := .int .i64 y) p2
          have cc : ∀ dd os, Calls Try.prog 9 #[.agg #[.int .i64 s.x, .int .i64 s.y], .agg #[.int .i64 x, .int .i64 y]] (grow (redrawn wr dd) os) fun e w'' => e = .returned (.tuple #[.int .i64 tv, .bool true]) ∧ ∃ p : Regrown, w'' = grow (redrawn wr p.d) p.os :=
            fun dd os => Calls.regrown_of ((impl_SoundTime_any s ⟨x, y⟩ _).mono fun e w' ⟨he, hq⟩ => ⟨by rw [he, HTV.out, HG.out], hq⟩)
          have C1 := Lib.hid cc
          clear cc
          go_wp2
          refine wp_region_quiet_below (by kernel_rfl) (by kernel_rfl) ?_
          repeat (first | go_big_quiet_step (exact C1.out _ _) | quiet_step (exact C1.out _ _))
          refine wpQuiet_nil ?_
          intro _ hw'
          obtain ⟨⟨dq, osq⟩, hw''⟩ := hw'
          subst hw''
          have hq := below_regrown wr dq osq
          clear r0 r1 r2 r3 C1
          generalize grow (redrawn wr dq) osq = w21 at *
          have p1_ := keep1 hq p1
          have p2_ := keep1 hq p2
          have d1_ := keep1 hq d1
          have d2_ := keep1 hq d2
          have d3_ := keep1 hq d3
          have h1_ := keep1 hq h1
          have ML_ := ML.out.below hq
          have MO_ := MO.out.below hq
          have VN_ := VN.out.below hq
          have BB_ := Below.next hq BB.out BB.out.size
          clear p1 p2 d1 d2 d3 h1 ML MO VN BB hq
          have p1 := p1_
          have p2 := p2_
          have d1 := d1_
          have d2 := d2_
          have d3 := d3_
          have h1 := h1_
          have ML := Lib.hid ML_
          have MO := Lib.hid MO_
          have VN := Lib.hid VN_
          have BB := Lib.hid BB_
          clear p1_ p2_ d1_ d2_ d3_ h1_ ML_ MO_ VN_ BB_
          have r0 := cell_regrown (w := w21) (a := ⟨bl, ol + k * 2, none⟩) (v := .int .i64 s.x) d1
          have r1 := cell_regrown (w := w21) (a := ⟨bl, ol + k * 2 + 1, none⟩) (v := .int .i64 s.y) d2
          have r2 := cell_regrown (w := w21) (a := ⟨w1.heap.size, 0, none⟩) (v := .int .i64 x) p1
          have r3 := cell_regrown (w := w21) (a := ⟨w1.heap.size, 1, none⟩) (v := .int .i64 y) p2
          have cc : ∀ dd os, Calls Try.prog 10 #[.agg #[.int .i64 s.x, .int .i64 s.y], .agg #[.int .i64 x, .int .i64 y]] (grow (redrawn w21 dd) os) fun e w'' => e = .returned (.tuple #[.int .i64 tv, .bool true]) ∧ ∃ p : Regrown, w'' = grow (redrawn w21 p.d) p.os :=
            fun dd os => Calls.regrown_of ((spec_SoundTime_any s ⟨x, y⟩ _).mono fun e w' ⟨he, hq⟩ => ⟨by rw [he, HTV.out, HG.out], hq⟩)
          have C1 := Lib.hid cc
          clear cc
          go_wp2
          refine wp_region_quiet_below (by kernel_rfl) (by kernel_rfl) ?_
          repeat (first | go_big_quiet_step (exact C1.out _ _) | quiet_step (exact C1.out _ _))
          refine wpQuiet_nil ?_
          intro _ hw'
          obtain ⟨⟨dq, osq⟩, hw''⟩ := hw'
          subst hw''
          have hq := below_regrown w21 dq osq
          clear r0 r1 r2 r3 C1
          generalize grow (redrawn w21 dq) osq = w22 at *
          have p1_ := keep1 hq p1
          have p2_ := keep1 hq p2
          have d1_ := keep1 hq d1
          have d2_ := keep1 hq d2
          have d3_ := keep1 hq d3
          have h1_ := keep1 hq h1
          have ML_ := ML.out.below hq
          have MO_ := MO.out.below hq
          have VN_ := VN.out.below hq
          have BB_ := Below.next hq BB.out BB.out.size
          clear p1 p2 d1 d2 d3 h1 ML MO VN BB hq
          have p1 := p1_
          have p2 := p2_
          have d1 := d1_
          have d2 := d2_
          have d3 := d3_
          have h1 := h1_
          have ML := Lib.hid ML_
          have MO := Lib.hid MO_
          have VN := Lib.hid VN_
          have BB := Lib.hid BB_
          clear p1_ p2_ d1_ d2_ d3_ h1_ ML_ MO_ VN_ BB_
          have hne : (n != o + tv) = false := by rw [HNO.out]; simp
          by_cases hc1 : n < l
          · skip
            by_cases hc2 : h < n
            · skip
              go_wp2
              go_roundw
              case rel => exact ⟨k + 1, n, n, by omega, by go_num, rfl, rfl, hnb.1, hnb.2, hnb.1, hnb.2, Lib.hid (by rw [HT1.out]; omega), Lib.hid (by rw [HT2.out]; omega), BB.out, ML, MO, p1, p2, VN⟩
              case measure => simp [intOf]; omega
            · skip
              go_wp2
              go_roundw
              case rel => exact ⟨k + 1, n, h, by omega, by go_num, rfl, rfl, hnb.1, hnb.2, ha, hb, Lib.hid (by rw [HT1.out]; omega), Lib.hid (by rw [HT2.out]; omega), BB.out, ML, MO, p1, p2, VN⟩
              case measure => simp [intOf]; omega
          · skip
            by_cases hc2 : h < n
            · skip
              go_wp2
              go_roundw
              case rel => exact ⟨k + 1, l, n, by omega, by go_num, rfl, rfl, la, lb, hnb.1, hnb.2, Lib.hid (by rw [HT1.out]; omega), Lib.hid (by rw [HT2.out]; omega), BB.out, ML, MO, p1, p2, VN⟩
              case measure => simp [intOf]; omega
            · skip
              go_wp2
              go_roundw
              case rel => exact ⟨k + 1, l, h, by omega, by go_num, rfl, rfl, la, lb, ha, hb, Lib.hid (by rw [HT1.out]; omega), Lib.hid (by rw [HT2.out]; omega), BB.out, ML, MO, p1, p2, VN⟩
              case measure => simp [intOf]; omega
        · skip
          have hsum : h - l = hs := by
            rw [HSPR.out, ← HLO.out, ← HHI.out, List.take_of_length_le (by omega)]
            unfold lowOf highOf
            rw [HD.out]
          have hne : (h - l != hs) = false := by rw [hsum]; simp
          clear hsum
          obtain ⟨bz, hbz⟩ : ∃ v : Int, (L1.length : Int) % 200 - 100 = v := ⟨_, rfl⟩
          have bz0 : -100 ≤ bz := by omega
          have bz1 : bz ≤ 99 := by omega
          have HBZ := Lib.hid hbz
          clear hbz
          obtain ⟨N, h_N⟩ : ∃ v, shV O bz = v := ⟨_, rfl⟩
          have HN := Lib.hid h_N
          clear h_N
          obtain ⟨ok6, h_ok6⟩ : ∃ v, shOk O bz = v := ⟨_, rfl⟩
          have HK6 := Lib.hid h_ok6
          clear h_ok6
          have hNb : N.length ≤ 1048576 := by rw [← HN.out]; exact Nat.le_trans (shV_len _ _) (by omega)
          go_wp2_with fail
          rw [HBZ.out]
          refine (impl_ShiftOffsets_any B' d' O bz _ MO.out (by omega)).mono ?_
          rintro e w23 ⟨NMA, NMc, he, ho, hq⟩
          rw [HN.out, HK6.out] at he
          rw [HN.out] at ho
          subst he
          have NM_n := Lib.hid (Mem.of_own ho)
          clear ho
          have p1_ := keep1 hq p1
          have p2_ := keep1 hq p2
          have ML_ := ML.out.below hq
          have MO_ := MO.out.below hq
          have VN_ := VN.out.below hq
          have BB_ := Below.next hq BB.out BB.out.size
          clear p1 p2 ML MO VN BB hq
          have p1 := p1_
          have p2 := p2_
          have ML := Lib.hid ML_
          have MO := Lib.hid MO_
          have VN := Lib.hid VN_
          have BB := Lib.hid BB_
          clear p1_ p2_ ML_ MO_ VN_ BB_
          have NM := NM_n
          clear NM_n
          go_wp2_with fail
          refine (spec_ShiftOffsets_any B' d' O bz _ MO.out (by omega)).mono ?_
          rintro e w24 ⟨NNA, NNc, he, ho, hq⟩
          rw [HN.out, HK6.out] at he
          rw [HN.out] at ho
          subst he
          have NN_n := Lib.hid (Mem.of_own ho)
          clear ho
          have p1_ := keep1 hq p1
          have p2_ := keep1 hq p2
          have ML_ := ML.out.below hq
          have MO_ := MO.out.below hq
          have VN_ := VN.out.below hq
          have NM_ := NM.out.below hq
          have BB_ := Below.next hq BB.out BB.out.size
          clear p1 p2 ML MO VN NM BB hq
          have p1 := p1_
          have p2 := p2_
          have ML := Lib.hid ML_
          have MO := Lib.hid MO_
          have VN := Lib.hid VN_
          have NM := Lib.hid NM_
          have BB := Lib.hid BB_
          clear p1_ p2_ ML_ MO_ VN_ NM_ BB_
          have NN := NN_n
          clear NN_n
          go_wp2_with fail
          refine (qInts_same _ _ _ _ N _ NM.out NN.out hNb).mono ?_
          rintro e w25 ⟨rfl, hq⟩
          have p1_ := keep1 hq p1
          have p2_ := keep1 hq p2
          have ML_ := ML.out.below hq
          have MO_ := MO.out.below hq
          have VN_ := VN.out.below hq
          have NM_ := NM.out.below hq
          have NN_ := NN.out.below hq
          have BB_ := Below.next hq BB.out BB.out.size
          clear p1 p2 ML MO VN NM NN BB hq
          have p1 := p1_
          have p2 := p2_
          have ML := Lib.hid ML_
          have MO := Lib.hid MO_
          have VN := Lib.hid VN_
          have NM := Lib.hid NM_
          have NN := Lib.hid NN_
          have BB := Lib.hid BB_
          clear p1_ p2_ ML_ MO_ VN_ NM_ NN_ BB_
          cases ok6
          · go_wp2
            go_ret
            exact ⟨rfl, BB.out⟩
          obtain ⟨N', f1, f2, f3, f4⟩ := shift_facts HK.out HK6.out
          obtain rfl : N' = N := f1.symm.trans HN.out
          rw [HS.out] at f3
          have HF2 := Lib.hid f2
          have HF3 := Lib.hid f3
          clear f1 f2 f3
          go_wp2_with fail
          refine (impl_HeardSpread_any A' c' L NMA NMc N' ⟨x, y⟩ _ ML.out NM.out (by omega) (by omega)).mono ?_
          rintro e w26 ⟨he, hq⟩
          rw [HF3.out, HF2.out] at he
          subst he
          have p1_ := keep1 hq p1
          have p2_ := keep1 hq p2
          have ML_ := ML.out.below hq
          have MO_ := MO.out.below hq
          have VN_ := VN.out.below hq
          have NM_ := NM.out.below hq
          have NN_ := NN.out.below hq
          have BB_ := Below.next hq BB.out BB.out.size
          clear p1 p2 ML MO VN NM NN BB hq
          have p1 := p1_
          have p2 := p2_
          have ML := Lib.hid ML_
          have MO := Lib.hid MO_
          have VN := Lib.hid VN_
          have NM := Lib.hid NM_
          have NN := Lib.hid NN_
          have BB := Lib.hid BB_
          clear p1_ p2_ ML_ MO_ VN_ NM_ NN_ BB_
          go_wp2
          go_ret
          exact ⟨rfl, BB.out⟩
end Go.Proofs.Ytdipmjflgjlfeaa
