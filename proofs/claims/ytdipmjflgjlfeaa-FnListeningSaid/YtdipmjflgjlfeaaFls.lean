/-
  FnListening: the walk.
-/
import Derived.Test.YtdipmjflgjlfeaaLwt
import Derived.Test.YtdipmjflgjlfeaaDry
import Derived.Test.YtdipmjflgjlfeaaFlp
import Derived.Test.YtdipmjflgjlfeaaSndc
import Derived.Deep.DeepCutAuto
import Derived.Lib.QuietBelow
namespace Go.Proofs.Ytdipmjflgjlfeaa
open Go.RowKit Go.Sort

set_option maxRecDepth 100000 in
set_option maxHeartbeats 4000000 in
theorem FnListening_walk (A0 : Option Addr) (c0 : Nat) (L0 : List Int) (A1 : Option Addr) (c1 : Nat) (L1 : List Int) (W : World) (m0 : Mem W A0 (L0.flatMap fun n => [Value.int .u8 n])) (k0 : ∀ x ∈ L0, okByte x) (l0 : L0.length ≤ c0) (n0 : c0 ≤ maxLen)
    (m1 : Mem W A1 (L1.flatMap fun n => [Value.int .u8 n])) (k1 : ∀ x ∈ L1, okByte x) (l1 : L1.length ≤ c1) (n1 : c1 ≤ maxLen) :
    Calls Try.prog 4 #[.slice A0 L0.length c0, .slice A1 L1.length c1] W fun e W' => e = .returned (.bool true) ∧ Below W.heap.size W W' := by
  have K0 := Lib.hid (code_of m0 k0 l0 n0)
  have K1 := Lib.hid (code_of m1 k1 l1 n1)
  unfold maxLen at n0 n1
  have q0 : L0.length ≤ 9223372036854775807 := by omega
  have BB := Lib.hid (Below.refl W.heap.size W)
  clear m0 k0 m1 k1
  clear l0 n0 l1 n1
  go_enter Try.func4, Try.ntmps4
  go_wp2_with fail
  refine (big_any _ _ _ _ _ _ _ q0).mono ?_
  rintro e w1 ⟨b, rfl, rfl⟩
  cases b
  case true =>
    go_wp2
    go_ret
    exact ⟨rfl, Below.refl _ _⟩
  go_wp2_with fail
  refine (drawBestListener_any _ _ _ _ K0.out).mono ?_
  rintro e w1 ⟨A', c', L, B', d', M, rfl, ⟨ho, hl, hL⟩, ⟨ho2, hl2, hM⟩, hq⟩
  clear hL hM
  have ML_n := Lib.hid (Mem.of_own ho)
  have MM_n := Lib.hid (Mem.of_own ho2)
  clear ho ho2
  have BB_ := Below.next hq BB.out BB.out.size
  clear BB hq
  have BB := Lib.hid BB_
  clear BB_
  have ML := ML_n
  have MM := MM_n
  clear ML_n MM_n
  obtain ⟨bv, h_bv⟩ : ∃ v, blV L M = v := ⟨_, rfl⟩
  have HBV := Lib.hid h_bv
  clear h_bv
  obtain ⟨ok, h_ok⟩ : ∃ v, (srcOk L && srcOk M) = v := ⟨_, rfl⟩
  have HK := Lib.hid h_ok
  clear h_ok
  go_wp2_with fail
  refine (impl_BestListener_any A' c' L B' d' M _ ML.out MM.out (by omega) (by omega)).mono ?_
  rintro e w2 ⟨he, hq⟩
  rw [HBV.out, HK.out] at he
  subst he
  have ML_ := ML.out.below hq
  have MM_ := MM.out.below hq
  have BB_ := Below.next hq BB.out BB.out.size
  clear ML MM BB hq
  have ML := Lib.hid ML_
  have MM := Lib.hid MM_
  have BB := Lib.hid BB_
  clear ML_ MM_ BB_
  go_wp2_with fail
  refine (spec_BestListener_any A' c' L B' d' M _ ML.out MM.out (by omega) (by omega)).mono ?_
  rintro e w3 ⟨he, hq⟩
  rw [HBV.out, HK.out] at he
  subst he
  have ML_ := ML.out.below hq
  have MM_ := MM.out.below hq
  have BB_ := Below.next hq BB.out BB.out.size
  clear ML MM BB hq
  have ML := Lib.hid ML_
  have MM := Lib.hid MM_
  have BB := Lib.hid BB_
  clear ML_ MM_ BB_
  go_upto_if 80 with (fail)
  go_cut [] (fun wx => Below W.heap.size W wx)
  case first => as_aux_lemma =>
    cases ok
    · go_wp2
      go_meet
      exact BB.out
    obtain ⟨j, p, hp, hbv, hj, hok2, hall⟩ := best_facts HK.out
    obtain rfl : (j : Int) = bv := hbv.symm.trans HBV.out
    obtain ⟨b, off, rfl, d1, d2⟩ := MM.out.spot hp
    obtain ⟨lp, hlp⟩ : ∃ v, spr L p = v := ⟨_, rfl⟩
    have HLP := Lib.hid hlp
    have HO2 := Lib.hid hok2
    have HALL := Lib.hid hall
    have hq1 := Lib.hid (show q1V L p (spr L p) = lp by rw [q1V, if_pos hok2, hlp])
    clear hp hbv hok2 hall hlp
    go_wp2_with fail
    refine (impl_SpreadAt_any A' c' L p _ ML.out (by omega)).mono ?_
    rintro e w4 ⟨he, hq⟩
    rw [hq1.out, HO2.out] at he
    subst he
    have d1_ := keep1 hq d1
    have d2_ := keep1 hq d2
    have ML_ := ML.out.below hq
    have MM_ := MM.out.below hq
    have BB_ := Below.next hq BB.out BB.out.size
    clear d1 d2 ML MM BB hq
    have d1 := d1_
    have d2 := d2_
    have ML := Lib.hid ML_
    have MM := Lib.hid MM_
    have BB := Lib.hid BB_
    clear d1_ d2_ ML_ MM_ BB_
    go_wp2
    go_loopw [92] (fun i wr => ∃ k : Nat, k ≤ M.length ∧ i = .int .i64 k ∧ Below W.heap.size W wr ∧ Hid (Mem wr A' (spots L)) ∧ Hid (Mem wr (some ⟨b, off, none⟩) (spots M))) (fun i _ => M.length - (intOf i).toNat)
    case atStart => exact ⟨0, by omega, rfl, BB.out, ML, MM⟩
    case round =>
      clear BB ML MM d1 d2
      obtain ⟨k, hk, rfl, hbb, ML, MM⟩ := hrel
      have BB := Lib.hid hbb
      clear hbb
      by_cases hlt : k < M.length
      · skip
        obtain ⟨q, hq⟩ := some_of_lt hlt
        obtain ⟨a1, a2, a3⟩ := HALL.out k q hq
        obtain ⟨b2, off2, e0, d1, d2⟩ := MM.out.spot hq
        obtain ⟨rfl, rfl⟩ : b = b2 ∧ off = off2 := by simpa using e0
        obtain ⟨sv, hsv⟩ : ∃ v, spr L q = v := ⟨_, rfl⟩
        rw [hsv, HLP.out] at a2 a3
        have hq2 := Lib.hid (show q1V L q (spr L q) = sv by rw [q1V, if_pos a1, hsv])
        have A1' := Lib.hid a1
        have A3 := Lib.hid a3
        clear hq e0 hsv a1 a3
        go_wp2_with fail
        have hq : Below wr.heap.size wr (wr.alloc (.cells #[.int .i64 q.x, .int .i64 q.y] 25)) := (Below.refl _ _).alloc (Nat.le_refl _) _
        have d1_ := keep1 hq d1
        have d2_ := keep1 hq d2
        have ML_ := ML.out.below hq
        have MM_ := MM.out.below hq
        have BB_ := Below.next hq BB.out BB.out.size
        clear d1 d2 ML MM BB hq
        have d1 := d1_
        have d2 := d2_
        have ML := Lib.hid ML_
        have MM := Lib.hid MM_
        have BB := Lib.hid BB_
        clear d1_ d2_ ML_ MM_ BB_
        have p1 : (wr.alloc (.cells #[.int .i64 q.x, .int .i64 q.y] 25)).cell? ⟨wr.heap.size, 0, none⟩ = some (.int .i64 q.x) := by simp [go_sem]
        have p2 : (wr.alloc (.cells #[.int .i64 q.x, .int .i64 q.y] 25)).cell? ⟨wr.heap.size, 1, none⟩ = some (.int .i64 q.y) := by simp [go_sem]
        refine (impl_SpreadAt_any A' c' L q _ ML.out (by omega)).mono ?_
        rintro e w5 ⟨he, hq⟩
        rw [hq2.out, A1'.out] at he
        subst he
        have d1_ := keep1 hq d1
        have d2_ := keep1 hq d2
        have p1_ := keep1 hq p1
        have p2_ := keep1 hq p2
        have ML_ := ML.out.below hq
        have MM_ := MM.out.below hq
        have BB_ := Below.next hq BB.out BB.out.size
        clear d1 d2 p1 p2 ML MM BB hq
        have d1 := d1_
        have d2 := d2_
        have p1 := p1_
        have p2 := p2_
        have ML := Lib.hid ML_
        have MM := Lib.hid MM_
        have BB := Lib.hid BB_
        clear d1_ d2_ p1_ p2_ ML_ MM_ BB_
        by_cases he : sv = lp
        · skip
          have hjk := A3.out he
          subst he
          go_wp2
          go_roundw
          case rel => exact ⟨k + 1, by omega, by go_num, BB.out, ML, MM⟩
          case measure => simp [intOf]; omega
        · skip
          have he' : (sv == lp) = false := beq_eq_false_iff_ne.2 he
          go_wp2
          go_roundw
          case rel => exact ⟨k + 1, by omega, by go_num, BB.out, ML, MM⟩
          case measure => simp [intOf]; omega
      · skip
        go_wp2
        go_meet
        exact BB.out
  case rest => as_aux_lemma =>
    clear BB ML MM HBV HK
    have BB := Lib.hid hcut
    clear hcut
    go_wp2_with fail
    refine (drawEvenCircle_any _ _ _ _ (K1.out.below BB.out)).mono ?_
    rintro e w6 ⟨A', c', L, x, y, m, rfl, ⟨ho, hl, hL⟩, hs, m0, m1, hq⟩
    clear hL hs
    have ML_n := Lib.hid (Mem.of_own ho)
    clear ho
    have BB_ := Below.next hq BB.out BB.out.size
    clear BB hq
    have BB := Lib.hid BB_
    clear BB_
    have ML := ML_n
    clear ML_n
    have hq : Below w6.heap.size w6 (w6.alloc (.cells #[.int .i64 x, .int .i64 y] 25)) := (Below.refl _ _).alloc (Nat.le_refl _) _
    have ML_ := ML.out.below hq
    have BB_ := Below.next hq BB.out BB.out.size
    clear ML BB hq
    have ML := Lib.hid ML_
    have BB := Lib.hid BB_
    clear ML_ BB_
    have p1 : (w6.alloc (.cells #[.int .i64 x, .int .i64 y] 25)).cell? ⟨w6.heap.size, 0, none⟩ = some (.int .i64 x) := by simp [go_sem]
    have p2 : (w6.alloc (.cells #[.int .i64 x, .int .i64 y] 25)).cell? ⟨w6.heap.size, 1, none⟩ = some (.int .i64 y) := by simp [go_sem]
    obtain ⟨V, h_V⟩ : ∃ v, ecV L ⟨x, y⟩ m = v := ⟨_, rfl⟩
    have HV := Lib.hid h_V
    clear h_V
    obtain ⟨ok, h_ok⟩ : ∃ v, ((srcOk L && isSp ⟨x, y⟩) && inR m 0 1000) = v := ⟨_, rfl⟩
    have HK := Lib.hid h_ok
    clear h_ok
    obtain ⟨tg, h_tg⟩ : ∃ v, togV L ⟨x, y⟩ m = v := ⟨_, rfl⟩
    have HTG := Lib.hid h_tg
    clear h_tg
    have hVb : V.length ≤ 1048576 := by
      rw [← HV.out, ecV]
      split
      · have := upto_len (times L ⟨x, y⟩) (lowOf (times L ⟨x, y⟩) + m) L.length; rw [times_len] at this; omega
      · simp
    go_wp2_with fail
    refine (impl_EvenCircle_any A' c' L ⟨x, y⟩ _ _ ML.out (by omega)).mono ?_
    rintro e w7 ⟨VMA, VMc, he, ho, hq⟩
    rw [HV.out, HK.out] at he
    rw [HV.out] at ho
    subst he
    have VM_n := Lib.hid (Mem.of_own ho)
    clear ho
    have p1_ := keep1 hq p1
    have p2_ := keep1 hq p2
    have ML_ := ML.out.below hq
    have BB_ := Below.next hq BB.out BB.out.size
    clear p1 p2 ML BB hq
    have p1 := p1_
    have p2 := p2_
    have ML := Lib.hid ML_
    have BB := Lib.hid BB_
    clear p1_ p2_ ML_ BB_
    have VM := VM_n
    clear VM_n
    go_wp2_with fail
    refine (spec_EvenCircle_any A' c' L ⟨x, y⟩ _ _ ML.out (by omega)).mono ?_
    rintro e w8 ⟨VNA, VNc, he, ho, hq⟩
    rw [HV.out, HK.out] at he
    rw [HV.out] at ho
    subst he
    have VN_n := Lib.hid (Mem.of_own ho)
    clear ho
    have p1_ := keep1 hq p1
    have p2_ := keep1 hq p2
    have ML_ := ML.out.below hq
    have VM_ := VM.out.below hq
    have BB_ := Below.next hq BB.out BB.out.size
    clear p1 p2 ML VM BB hq
    have p1 := p1_
    have p2 := p2_
    have ML := Lib.hid ML_
    have VM := Lib.hid VM_
    have BB := Lib.hid BB_
    clear p1_ p2_ ML_ VM_ BB_
    have VN := VN_n
    clear VN_n
    go_wp2_with fail
    refine (impl_TogetherAt_any A' c' L ⟨x, y⟩ _ _ ML.out (by omega)).mono ?_
    rintro e w9 ⟨he, hq⟩
    rw [HTG.out, HK.out] at he
    subst he
    have p1_ := keep1 hq p1
    have p2_ := keep1 hq p2
    have ML_ := ML.out.below hq
    have VM_ := VM.out.below hq
    have VN_ := VN.out.below hq
    have BB_ := Below.next hq BB.out BB.out.size
    clear p1 p2 ML VM VN BB hq
    have p1 := p1_
    have p2 := p2_
    have ML := Lib.hid ML_
    have VM := Lib.hid VM_
    have VN := Lib.hid VN_
    have BB := Lib.hid BB_
    clear p1_ p2_ ML_ VM_ VN_ BB_
    go_wp2_with fail
    refine (spec_TogetherAt_any A' c' L ⟨x, y⟩ _ _ ML.out (by omega)).mono ?_
    rintro e w10 ⟨he, hq⟩
    rw [HTG.out, HK.out] at he
    subst he
    have p1_ := keep1 hq p1
    have p2_ := keep1 hq p2
    have ML_ := ML.out.below hq
    have VM_ := VM.out.below hq
    have VN_ := VN.out.below hq
    have BB_ := Below.next hq BB.out BB.out.size
    clear p1 p2 ML VM VN BB hq
    have p1 := p1_
    have p2 := p2_
    have ML := Lib.hid ML_
    have VM := Lib.hid VM_
    have VN := Lib.hid VN_
    have BB := Lib.hid BB_
    clear p1_ p2_ ML_ VM_ VN_ BB_
    go_wp2_with fail
    refine (sameInts_same _ _ _ _ V _ VM.out VN.out hVb).mono ?_
    rintro e w11 ⟨rfl, hq⟩
    have p1_ := keep1 hq p1
    have p2_ := keep1 hq p2
    have ML_ := ML.out.below hq
    have VM_ := VM.out.below hq
    have VN_ := VN.out.below hq
    have BB_ := Below.next hq BB.out BB.out.size
    clear p1 p2 ML VM VN BB hq
    have p1 := p1_
    have p2 := p2_
    have ML := Lib.hid ML_
    have VM := Lib.hid VM_
    have VN := Lib.hid VN_
    have BB := Lib.hid BB_
    clear p1_ p2_ ML_ VM_ VN_ BB_
    go_upto_if 183 with (fail)
    go_cut [] (fun wx => Below W.heap.size W wx)
    case first => as_aux_lemma =>
      cases ok
      · go_wp2
        go_meet
        exact BB.out
      obtain ⟨j, V', hj, hV', hin, htog, _⟩ := even_facts HK.out
      obtain rfl : V' = V := hV'.symm.trans HV.out
      have h1 : (srcOk L && isSp ⟨x, y⟩) = true := by
        have h2 := HK.out
        cases h3 : (srcOk L && isSp ⟨x, y⟩)
        · rw [h3] at h2; simp at h2
        · rfl
      have hf := Lib.hid (show q1V L ⟨x, y⟩ (argmin (times L ⟨x, y⟩) L.length) = (j : Int) by rw [q1V, if_pos h1, hj])
      have H1 := Lib.hid h1
      rw [HTG.out] at htog
      have HIN := Lib.hid (show decide ((j : Int) ∈ V') = true by simp [hin])
      have HTT := Lib.hid htog
      clear hj hV' hin htog h1
      go_wp2_with fail
      refine (impl_HeardFirst_any A' c' L ⟨x, y⟩ _ ML.out (by omega)).mono ?_
      rintro e w12 ⟨he, hq⟩
      rw [hf.out, H1.out] at he
      subst he
      have p1_ := keep1 hq p1
      have p2_ := keep1 hq p2
      have ML_ := ML.out.below hq
      have VM_ := VM.out.below hq
      have VN_ := VN.out.below hq
      have BB_ := Below.next hq BB.out BB.out.size
      clear p1 p2 ML VM VN BB hq
      have p1 := p1_
      have p2 := p2_
      have ML := Lib.hid ML_
      have VM := Lib.hid VM_
      have VN := Lib.hid VN_
      have BB := Lib.hid BB_
      clear p1_ p2_ ML_ VM_ VN_ BB_
      go_wp2_with fail
      refine (spec_HeardFirst_any A' c' L ⟨x, y⟩ _ ML.out (by omega)).mono ?_
      rintro e w13 ⟨he, hq⟩
      rw [hf.out, H1.out] at he
      subst he
      have p1_ := keep1 hq p1
      have p2_ := keep1 hq p2
      have ML_ := ML.out.below hq
      have VM_ := VM.out.below hq
      have VN_ := VN.out.below hq
      have BB_ := Below.next hq BB.out BB.out.size
      clear p1 p2 ML VM VN BB hq
      have p1 := p1_
      have p2 := p2_
      have ML := Lib.hid ML_
      have VM := Lib.hid VM_
      have VN := Lib.hid VN_
      have BB := Lib.hid BB_
      clear p1_ p2_ ML_ VM_ VN_ BB_
      go_wp2_with fail
      refine (pIn_any _ _ V' _ _ VN.out hVb).mono ?_
      rintro e _ ⟨he, rfl⟩
      rw [HIN.out] at he
      subst he
      by_cases hvl : V'.length = L.length
      · skip
        have ht := HTT.out
        rw [show decide (V'.length = L.length) = true by simp [hvl]] at ht
        subst ht
        have hvl' : ((V'.length : Int) == (L.length : Int)) = true := by simp [hvl]
        have HVL := Lib.hid hvl
        clear hvl
        go_wp2
        go_meet
        exact BB.out
      · skip
        have ht := HTT.out
        rw [show decide (V'.length = L.length) = false by simp [hvl]] at ht
        subst ht
        have hvl' : ((V'.length : Int) == (L.length : Int)) = false := beq_eq_false_iff_ne.2 (by omega)
        have HVL := Lib.hid hvl
        clear hvl
        go_wp2
        go_meet
        exact BB.out
    case rest => as_aux_lemma =>
      clear BB ML VM VN p1 p2 HV HK HTG
      have BB := Lib.hid hcut
      clear hcut
      go_wp2_with fail
      refine (drawWorstPair_any _ _ _ _ (K1.out.below BB.out)).mono ?_
      rintro e w14 ⟨A', c', L, rfl, ⟨ho, hl, hL⟩, hq⟩
      clear hL
      have hcap := own_cap ho
      have ML_n := Lib.hid (Mem.of_own ho)
      clear ho
      have BB_ := Below.next hq BB.out BB.out.size
      clear BB hq
      have BB := Lib.hid BB_
      clear BB_
      have ML := ML_n
      clear ML_n
      obtain ⟨v1, h_v1⟩ : ∃ v, wp1 L = v := ⟨_, rfl⟩
      have HW1 := Lib.hid h_v1
      clear h_v1
      obtain ⟨v2, h_v2⟩ : ∃ v, wp2 L = v := ⟨_, rfl⟩
      have HW2 := Lib.hid h_v2
      clear h_v2
      obtain ⟨ok, h_ok⟩ : ∃ v, wpOk L = v := ⟨_, rfl⟩
      have HK := Lib.hid h_ok
      clear h_ok
      go_wp2_with fail
      refine (impl_WorstPair_any A' c' L _ ML.out (by omega)).mono ?_
      rintro e w15 ⟨he, hq⟩
      rw [HW1.out, HW2.out, HK.out] at he
      subst he
      have ML_ := ML.out.below hq
      have BB_ := Below.next hq BB.out BB.out.size
      clear ML BB hq
      have ML := Lib.hid ML_
      have BB := Lib.hid BB_
      clear ML_ BB_
      go_wp2_with fail
      refine (spec_WorstPair_any A' c' L _ ML.out (by omega)).mono ?_
      rintro e w16 ⟨he, hq⟩
      rw [HW1.out, HW2.out, HK.out] at he
      subst he
      have ML_ := ML.out.below hq
      have BB_ := Below.next hq BB.out BB.out.size
      clear ML BB hq
      have ML := Lib.hid ML_
      have BB := Lib.hid BB_
      clear ML_ BB_
      go_upto_if 249 with (fail)
      go_cut [] (fun wx => Below W.heap.size W wx)
      case first => as_aux_lemma =>
        cases ok
        · go_wp2
          go_meet
          exact BB.out
        obtain ⟨i, k, a, b, ha, hb, h1, h2, hi, hk, hsp, hall⟩ := pair_facts HK.out
        obtain rfl : (i : Int) = v1 := h1.symm.trans HW1.out
        obtain rfl : (k : Int) = v2 := h2.symm.trans HW2.out
        obtain ⟨bb, off, rfl, d1, d2⟩ := ML.out.spot ha
        obtain ⟨bb', off', e0, d3, d4⟩ := ML.out.spot hb
        obtain ⟨rfl, rfl⟩ : bb = bb' ∧ off = off' := by simpa using e0
        obtain ⟨far, hfar⟩ : ∃ v, sqV a b = v := ⟨_, rfl⟩
        have hsq : sq a b = far := by rw [← hfar, sqV, if_pos hsp]
        rw [hsq] at hall
        have HF := Lib.hid hfar
        have HS := Lib.hid hsp
        have HALL := Lib.hid hall
        clear ha hb h1 h2 hsp hall e0 hfar hsq
        have r0 := cell_regrown (w := w16) (a := ⟨bb, off + i * 2, none⟩) (v := .int .i64 a.x) d1
        have r1 := cell_regrown (w := w16) (a := ⟨bb, off + i * 2 + 1, none⟩) (v := .int .i64 a.y) d2
        have r2 := cell_regrown (w := w16) (a := ⟨bb, off + k * 2, none⟩) (v := .int .i64 b.x) d3
        have r3 := cell_regrown (w := w16) (a := ⟨bb, off + k * 2 + 1, none⟩) (v := .int .i64 b.y) d4
        have cc : ∀ dd os, Calls Try.prog 11 #[.agg #[.int .i64 a.x, .int .i64 a.y], .agg #[.int .i64 b.x, .int .i64 b.y]] (grow (redrawn w16 dd) os) fun e w'' => e = .returned (.tuple #[.int .i64 far, .bool true]) ∧ ∃ p : Regrown, w'' = grow (redrawn w16 p.d) p.os :=
          fun dd os => Calls.regrown_of ((impl_SquareOf_any a b _).mono fun e w' ⟨he, hq⟩ => ⟨by rw [he, HF.out, HS.out], hq⟩)
        have C1 := Lib.hid cc
        clear cc
        go_wp2
        refine wp_region_quiet_below (by kernel_rfl) (by kernel_rfl) ?_
        repeat (first | go_big_quiet_step (exact C1.out _ _) | quiet_step (exact C1.out _ _))
        refine wpQuiet_nil ?_
        intro _ hw'
        obtain ⟨⟨dq, osq⟩, hw''⟩ := hw'
        subst hw''
        have hq := below_regrown w16 dq osq
        clear r0 r1 r2 r3 C1
        generalize grow (redrawn w16 dq) osq = w17 at *
        have d1_ := keep1 hq d1
        have d2_ := keep1 hq d2
        have d3_ := keep1 hq d3
        have d4_ := keep1 hq d4
        have ML_ := ML.out.below hq
        have BB_ := Below.next hq BB.out BB.out.size
        clear d1 d2 d3 d4 ML BB hq
        have d1 := d1_
        have d2 := d2_
        have d3 := d3_
        have d4 := d4_
        have ML := Lib.hid ML_
        have BB := Lib.hid BB_
        clear d1_ d2_ d3_ d4_ ML_ BB_
        go_wp2
        go_loopw [264] (fun n wr => ∃ x : Nat, x ≤ L.length ∧ n = .int .i64 x ∧ Below W.heap.size W wr ∧ Hid (Mem wr (some ⟨bb, off, none⟩) (spots L))) (fun n _ => L.length - (intOf n).toNat)
        case atStart => exact ⟨0, by omega, rfl, BB.out, ML⟩
        case round =>
          clear BB ML d1 d2 d3 d4
          obtain ⟨x, hx, rfl, hbb, ML⟩ := hrel
          have BB := Lib.hid hbb
          clear hbb
          by_cases hlt : x < L.length
          · skip
            have hxc : x ≤ c' := by omega
            go_wp2
            go_loopw [271] (fun n wr => ∃ y : Nat, y ≤ x ∧ n = .int .i64 y ∧ Below W.heap.size W wr ∧ Hid (Mem wr (some ⟨bb, off, none⟩) (spots L))) (fun n _ => x - (intOf n).toNat)
            case atStart => exact ⟨0, by omega, rfl, BB.out, ML⟩
            case round =>
              clear BB ML
              obtain ⟨y, hy, rfl, hbb, ML⟩ := hrel
              have BB := Lib.hid hbb
              clear hbb
              by_cases hlt2 : y < x
              · skip
                obtain ⟨p, hp⟩ := some_of_lt hlt
                have hyl : y < L.length := by omega
                obtain ⟨q, hq⟩ := some_of_lt hyl
                obtain ⟨a1, a2⟩ := HALL.out x y p q hlt2 hp hq
                obtain ⟨b2, off2, e0, d1, d2⟩ := ML.out.spot hp
                obtain ⟨rfl, rfl⟩ : bb = b2 ∧ off = off2 := by simpa using e0
                obtain ⟨b2, off2, e0', d3, d4⟩ := ML.out.spot hq
                obtain ⟨rfl, rfl⟩ : bb = b2 ∧ off = off2 := by simpa using e0'
                obtain ⟨sv, hsv⟩ : ∃ v, sqV p q = v := ⟨_, rfl⟩
                have hsq : sq p q = sv := by rw [← hsv, sqV, if_pos a1]
                rw [hsq] at a2
                have HP := Lib.hid hsv
                have HQ := Lib.hid a1
                clear hp hq e0 e0' hsv hsq a1
                have r0 := cell_regrown (w := wr) (a := ⟨bb, off + x * 2, none⟩) (v := .int .i64 p.x) d1
                have r1 := cell_regrown (w := wr) (a := ⟨bb, off + x * 2 + 1, none⟩) (v := .int .i64 p.y) d2
                have r2 := cell_regrown (w := wr) (a := ⟨bb, off + y * 2, none⟩) (v := .int .i64 q.x) d3
                have r3 := cell_regrown (w := wr) (a := ⟨bb, off + y * 2 + 1, none⟩) (v := .int .i64 q.y) d4
                have cc : ∀ dd os, Calls Try.prog 11 #[.agg #[.int .i64 p.x, .int .i64 p.y], .agg #[.int .i64 q.x, .int .i64 q.y]] (grow (redrawn wr dd) os) fun e w'' => e = .returned (.tuple #[.int .i64 sv, .bool true]) ∧ ∃ p : Regrown, w'' = grow (redrawn wr p.d) p.os :=
                  fun dd os => Calls.regrown_of ((impl_SquareOf_any p q _).mono fun e w' ⟨he, hq⟩ => ⟨by rw [he, HP.out, HQ.out], hq⟩)
                have C1 := Lib.hid cc
                clear cc
                go_wp2
                refine wp_region_quiet_below (by kernel_rfl) (by kernel_rfl) ?_
                repeat (first | go_big_quiet_step (exact C1.out _ _) | quiet_step (exact C1.out _ _))
                refine wpQuiet_nil ?_
                intro _ hw'
                obtain ⟨⟨dq, osq⟩, hw''⟩ := hw'
                subst hw''
                have hq := below_regrown wr dq osq
                clear r0 r1 r2 r3 C1
                generalize grow (redrawn wr dq) osq = w18 at *
                have d1_ := keep1 hq d1
                have d2_ := keep1 hq d2
                have d3_ := keep1 hq d3
                have d4_ := keep1 hq d4
                have ML_ := ML.out.below hq
                have BB_ := Below.next hq BB.out BB.out.size
                clear d1 d2 d3 d4 ML BB hq
                have d1 := d1_
                have d2 := d2_
                have d3 := d3_
                have d4 := d4_
                have ML := Lib.hid ML_
                have BB := Lib.hid BB_
                clear d1_ d2_ d3_ d4_ ML_ BB_
                go_wp2
                go_roundw
                case rel => exact ⟨y + 1, by omega, by go_num, BB.out, ML⟩
                case measure => simp [intOf]; omega
              · skip
                go_wp2
                go_roundw
                case rel => exact ⟨x + 1, by omega, by go_num, BB.out, ML⟩
                case measure => simp [intOf]; omega
          · skip
            go_wp2
            go_meet
            exact BB.out
      case rest => as_aux_lemma =>
        clear BB ML HW1 HW2 HK
        have BB := Lib.hid hcut
        clear hcut
        go_wp2_with fail
        refine (drawTogetherAt_any _ _ _ _ (K1.out.below BB.out)).mono ?_
        rintro e w19 ⟨A', c', L, x, y, m, rfl, ⟨ho, hl, hL⟩, hs, m0, m1, hq⟩
        clear hL hs
        have ML_n := Lib.hid (Mem.of_own ho)
        clear ho
        have BB_ := Below.next hq BB.out BB.out.size
        clear BB hq
        have BB := Lib.hid BB_
        clear BB_
        have ML := ML_n
        clear ML_n
        have hq : Below w19.heap.size w19 (w19.alloc (.cells #[.int .i64 x, .int .i64 y] 25)) := (Below.refl _ _).alloc (Nat.le_refl _) _
        have ML_ := ML.out.below hq
        have BB_ := Below.next hq BB.out BB.out.size
        clear ML BB hq
        have ML := Lib.hid ML_
        have BB := Lib.hid BB_
        clear ML_ BB_
        have p1 : (w19.alloc (.cells #[.int .i64 x, .int .i64 y] 25)).cell? ⟨w19.heap.size, 0, none⟩ = some (.int .i64 x) := by simp [go_sem]
        have p2 : (w19.alloc (.cells #[.int .i64 x, .int .i64 y] 25)).cell? ⟨w19.heap.size, 1, none⟩ = some (.int .i64 y) := by simp [go_sem]
        obtain ⟨ok, h_ok⟩ : ∃ v, ((srcOk L && isSp ⟨x, y⟩) && inR m 0 1000) = v := ⟨_, rfl⟩
        have HK := Lib.hid h_ok
        clear h_ok
        obtain ⟨tg, h_tg⟩ : ∃ v, togV L ⟨x, y⟩ m = v := ⟨_, rfl⟩
        have HTG := Lib.hid h_tg
        clear h_tg
        go_wp2_with fail
        refine (impl_TogetherAt_any A' c' L ⟨x, y⟩ _ _ ML.out (by omega)).mono ?_
        rintro e w20 ⟨he, hq⟩
        rw [HTG.out, HK.out] at he
        subst he
        have p1_ := keep1 hq p1
        have p2_ := keep1 hq p2
        have ML_ := ML.out.below hq
        have BB_ := Below.next hq BB.out BB.out.size
        clear p1 p2 ML BB hq
        have p1 := p1_
        have p2 := p2_
        have ML := Lib.hid ML_
        have BB := Lib.hid BB_
        clear p1_ p2_ ML_ BB_
        go_wp2_with fail
        refine (spec_TogetherAt_any A' c' L ⟨x, y⟩ _ _ ML.out (by omega)).mono ?_
        rintro e w21 ⟨he, hq⟩
        rw [HTG.out, HK.out] at he
        subst he
        have p1_ := keep1 hq p1
        have p2_ := keep1 hq p2
        have ML_ := ML.out.below hq
        have BB_ := Below.next hq BB.out BB.out.size
        clear p1 p2 ML BB hq
        have p1 := p1_
        have p2 := p2_
        have ML := Lib.hid ML_
        have BB := Lib.hid BB_
        clear p1_ p2_ ML_ BB_
        go_wp2
        go_ret
        exact ⟨rfl, BB.out⟩
end Go.Proofs.Ytdipmjflgjlfeaa
