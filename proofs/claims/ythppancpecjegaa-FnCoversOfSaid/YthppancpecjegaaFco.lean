/-
  The walk of the law of covers.
-/
import Derived.Test.YthppancpecjegaaFcu
import Derived.Test.YthppancpecjegaaFaq
import Derived.Test.YthppancpecjegaaFrame
import Derived.Deep.DeepCutAuto
namespace Go.Proofs.Ythppancpecjegaa
open Go.RowKit
open Go.Sort (grow)

theorem code_of {w : World} {A : Option Addr} {L : List Int} {c : Nat} (hm : Mem w A (L.flatMap fun n => [Value.int .u8 n])) (ho : ∀ x ∈ L, okByte x) (h1 : L.length ≤ c) (h2 : c ≤ maxLen) : code w A L :=
  ⟨hm, fun x hx => by have := ho x hx; unfold okByte at this; omega, by unfold maxLen at h2; omega⟩
theorem take_more {V : List Sp} {j : Nat} {u : Sp} (h : has (V.take j) u = true) : has (V.take (j + 1)) u = true := by
  rw [has_iff] at *
  rw [List.take_add_one]
  exact List.mem_append.2 (.inl h)
theorem lk_one {L : List Sp} {O M : List Int} : lkB L O M = (abOk L O M && decide (laV L O M = 0)) := by
  cases h : abOk L O M
  · rw [lkB, h]; rfl
  · rw [lkB, h, la_ok h]
theorem cs_is {L : List Sp} {a n mv : List Int} : csOk L a n mv = (abOk L a n && icV L a n mv) := by
  unfold csOk icV
  cases abOk L a n <;> rfl

set_option maxRecDepth 100000 in
set_option maxHeartbeats 20000000 in
theorem FnCoversOf_walk (A0 : Option Addr) (c0 : Nat) (L0 : List Int) (A1 : Option Addr) (c1 : Nat) (L1 : List Int) (W : World) (m0 : Mem W A0 (L0.flatMap fun n => [Value.int .u8 n])) (k0 : ∀ x ∈ L0, okByte x) (l0 : L0.length ≤ c0) (n0 : c0 ≤ maxLen)
    (m1 : Mem W A1 (L1.flatMap fun n => [Value.int .u8 n])) (k1 : ∀ x ∈ L1, okByte x) (l1 : L1.length ≤ c1) (n1 : c1 ≤ maxLen) :
    Calls Try.prog 6 #[.slice A0 L0.length c0, .slice A1 L1.length c1] W fun e W' => e = .returned (.bool true) ∧ Below W.heap.size W W' := by
  have K0 := Lib.hid (code_of m0 k0 l0 n0)
  have K1 := Lib.hid (code_of m1 k1 l1 n1)
  unfold maxLen at n0 n1
  have q0 : L0.length ≤ 9223372036854775807 := by omega
  have BB := Lib.hid (Below.refl W.heap.size W)
  clear m0 k0 m1 k1
  clear l0 n0 l1 n1
  go_enter Try.func6, Try.ntmps6
  by_cases hbig : 1048576 < wrap64 ((L0.length : Int) + (L1.length : Int))
  · go_wp2
    go_ret
    exact ⟨rfl, Below.refl _ _⟩
  go_wp2_with fail
  refine (drawLeastCoverOf_any _ _ _ _ K0.out).mono ?_
  rintro e w1 ⟨A', c', L, B', d', O, C', f', M, rfl, h1, h2, h3, hq⟩
  have ML_n := Lib.hid (Mem.of_own h1.2.1)
  have CML := own_cap h1.2.1
  have BML : L.length ≤ 13 := h1.1
  have MO_n := Lib.hid (Mem.of_own h2.2.1)
  have CMO := own_cap h2.2.1
  have BMO : O.length ≤ 14 := h2.1
  have MM_n := Lib.hid (Mem.of_own h3.2.1)
  have CMM := own_cap h3.2.1
  have BMM : M.length ≤ 14 := h3.1
  clear h1 h2 h3
  have K0_ := K0.out.below hq
  have K1_ := K1.out.below hq
  have BB_ := Below.next hq BB.out BB.out.size
  clear K0 K1 BB hq
  have K0 := Lib.hid K0_
  have K1 := Lib.hid K1_
  have BB := Lib.hid BB_
  clear K0_ K1_ BB_
  have ML := ML_n
  clear ML_n
  have MO := MO_n
  clear MO_n
  have MM := MM_n
  clear MM_n
  clear K0
  have HLK0 := Lib.hid (lk_one (L := L) (O := O) (M := M))
  have hlk : (lkV L O M).length ≤ 1048576 := Nat.le_trans (lkV_le L O M) (by omega)
  have hop : (opV L O M).length ≤ 1048576 := by
    unfold opV
    split
    · exact Nat.le_trans (opens_len O M) (by omega)
    · simp
  have hsp : (spV L O M).length ≤ 1048576 := by
    unfold spV
    split
    · exact Nat.le_trans (spares_len L.length O M) (by omega)
    · simp
  obtain ⟨one, h_one⟩ : ∃ v, abOk L O M = v := ⟨_, rfl⟩
  have HONE := Lib.hid h_one
  clear h_one
  obtain ⟨lk, h_lk⟩ : ∃ v, lkB L O M = v := ⟨_, rfl⟩
  have HLB := Lib.hid h_lk
  clear h_lk
  obtain ⟨la, h_la⟩ : ∃ v, laV L O M = v := ⟨_, rfl⟩
  have HLA := Lib.hid h_la
  clear h_la
  obtain ⟨sm, h_sm⟩ : ∃ v, lkN L O M = v := ⟨_, rfl⟩
  have HLN := Lib.hid h_sm
  clear h_sm
  obtain ⟨X, h_X⟩ : ∃ v, lkV L O M = v := ⟨_, rfl⟩
  have HX := Lib.hid h_X
  clear h_X
  obtain ⟨Y, h_Y⟩ : ∃ v, opV L O M = v := ⟨_, rfl⟩
  have HY := Lib.hid h_Y
  clear h_Y
  obtain ⟨Z, h_Z⟩ : ∃ v, spV L O M = v := ⟨_, rfl⟩
  have HZ := Lib.hid h_Z
  clear h_Z
  rw [HX.out] at hlk
  rw [HY.out] at hop
  rw [HZ.out] at hsp
  have HLK := Lib.hid (show lk = (one && decide (la = 0)) by rw [← HLB.out, ← HONE.out, ← HLA.out]; exact HLK0.out)
  clear HLK0
  go_wp2_with fail
  refine (impl_LeastCoverOf_any _ _ L _ _ O _ _ M _ ML.out MO.out MM.out (by omega) (by omega) (by omega) CML).mono ?_
  rintro e w2 ⟨X1A, X1c, he, ho, hq⟩
  rw [HX.out, HLN.out, HLB.out] at he
  rw [HX.out] at ho
  subst he
  have MX1_n := Lib.hid (Mem.of_own ho)
  have CMX1 := own_cap ho
  clear ho
  have K1_ := K1.out.below hq
  have ML_ := ML.out.below hq
  have MO_ := MO.out.below hq
  have MM_ := MM.out.below hq
  have BB_ := Below.next hq BB.out BB.out.size
  clear K1 ML MO MM BB hq
  have K1 := Lib.hid K1_
  have ML := Lib.hid ML_
  have MO := Lib.hid MO_
  have MM := Lib.hid MM_
  have BB := Lib.hid BB_
  clear K1_ ML_ MO_ MM_ BB_
  have MX1 := MX1_n
  clear MX1_n
  go_wp2_with fail
  refine (spec_LeastCoverOf_any _ _ L _ _ O _ _ M _ ML.out MO.out MM.out (by omega) (by omega) (by omega) CML).mono ?_
  rintro e w3 ⟨X2A, X2c, he, ho, hq⟩
  rw [HX.out, HLN.out, HLB.out] at he
  rw [HX.out] at ho
  subst he
  have MX2_n := Lib.hid (Mem.of_own ho)
  have CMX2 := own_cap ho
  clear ho
  have K1_ := K1.out.below hq
  have ML_ := ML.out.below hq
  have MO_ := MO.out.below hq
  have MM_ := MM.out.below hq
  have MX1_ := MX1.out.below hq
  have BB_ := Below.next hq BB.out BB.out.size
  clear K1 ML MO MM MX1 BB hq
  have K1 := Lib.hid K1_
  have ML := Lib.hid ML_
  have MO := Lib.hid MO_
  have MM := Lib.hid MM_
  have MX1 := Lib.hid MX1_
  have BB := Lib.hid BB_
  clear K1_ ML_ MO_ MM_ MX1_ BB_
  have MX2 := MX2_n
  clear MX2_n
  go_wp2_with fail
  refine (impl_OpenSpots_any _ _ L _ _ O _ _ M _ ML.out MO.out MM.out (by omega) (by omega) (by omega) CML).mono ?_
  rintro e w4 ⟨Y1A, Y1c, he, ho, hq⟩
  rw [HY.out, HONE.out] at he
  rw [HY.out] at ho
  subst he
  have MY1_n := Lib.hid (Mem.of_own ho)
  have CMY1 := own_cap ho
  clear ho
  have K1_ := K1.out.below hq
  have ML_ := ML.out.below hq
  have MO_ := MO.out.below hq
  have MM_ := MM.out.below hq
  have MX1_ := MX1.out.below hq
  have MX2_ := MX2.out.below hq
  have BB_ := Below.next hq BB.out BB.out.size
  clear K1 ML MO MM MX1 MX2 BB hq
  have K1 := Lib.hid K1_
  have ML := Lib.hid ML_
  have MO := Lib.hid MO_
  have MM := Lib.hid MM_
  have MX1 := Lib.hid MX1_
  have MX2 := Lib.hid MX2_
  have BB := Lib.hid BB_
  clear K1_ ML_ MO_ MM_ MX1_ MX2_ BB_
  have MY1 := MY1_n
  clear MY1_n
  go_wp2_with fail
  refine (spec_OpenSpots_any _ _ L _ _ O _ _ M _ ML.out MO.out MM.out (by omega) (by omega) (by omega) CML).mono ?_
  rintro e w5 ⟨Y2A, Y2c, he, ho, hq⟩
  rw [HY.out, HONE.out] at he
  rw [HY.out] at ho
  subst he
  have MY2_n := Lib.hid (Mem.of_own ho)
  have CMY2 := own_cap ho
  clear ho
  have K1_ := K1.out.below hq
  have ML_ := ML.out.below hq
  have MO_ := MO.out.below hq
  have MM_ := MM.out.below hq
  have MX1_ := MX1.out.below hq
  have MX2_ := MX2.out.below hq
  have MY1_ := MY1.out.below hq
  have BB_ := Below.next hq BB.out BB.out.size
  clear K1 ML MO MM MX1 MX2 MY1 BB hq
  have K1 := Lib.hid K1_
  have ML := Lib.hid ML_
  have MO := Lib.hid MO_
  have MM := Lib.hid MM_
  have MX1 := Lib.hid MX1_
  have MX2 := Lib.hid MX2_
  have MY1 := Lib.hid MY1_
  have BB := Lib.hid BB_
  clear K1_ ML_ MO_ MM_ MX1_ MX2_ MY1_ BB_
  have MY2 := MY2_n
  clear MY2_n
  go_wp2_with fail
  refine (impl_SparePerformers_any _ _ L _ _ O _ _ M _ ML.out MO.out MM.out (by omega) (by omega) (by omega) CML).mono ?_
  rintro e w6 ⟨Z1A, Z1c, he, ho, hq⟩
  rw [HZ.out, HONE.out] at he
  rw [HZ.out] at ho
  subst he
  have MZ1_n := Lib.hid (Mem.of_own ho)
  have CMZ1 := own_cap ho
  clear ho
  have K1_ := K1.out.below hq
  have ML_ := ML.out.below hq
  have MO_ := MO.out.below hq
  have MM_ := MM.out.below hq
  have MX1_ := MX1.out.below hq
  have MX2_ := MX2.out.below hq
  have MY1_ := MY1.out.below hq
  have MY2_ := MY2.out.below hq
  have BB_ := Below.next hq BB.out BB.out.size
  clear K1 ML MO MM MX1 MX2 MY1 MY2 BB hq
  have K1 := Lib.hid K1_
  have ML := Lib.hid ML_
  have MO := Lib.hid MO_
  have MM := Lib.hid MM_
  have MX1 := Lib.hid MX1_
  have MX2 := Lib.hid MX2_
  have MY1 := Lib.hid MY1_
  have MY2 := Lib.hid MY2_
  have BB := Lib.hid BB_
  clear K1_ ML_ MO_ MM_ MX1_ MX2_ MY1_ MY2_ BB_
  have MZ1 := MZ1_n
  clear MZ1_n
  go_wp2_with fail
  refine (spec_SparePerformers_any _ _ L _ _ O _ _ M _ ML.out MO.out MM.out (by omega) (by omega) (by omega) CML).mono ?_
  rintro e w7 ⟨Z2A, Z2c, he, ho, hq⟩
  rw [HZ.out, HONE.out] at he
  rw [HZ.out] at ho
  subst he
  have MZ2_n := Lib.hid (Mem.of_own ho)
  have CMZ2 := own_cap ho
  clear ho
  have K1_ := K1.out.below hq
  have ML_ := ML.out.below hq
  have MO_ := MO.out.below hq
  have MM_ := MM.out.below hq
  have MX1_ := MX1.out.below hq
  have MX2_ := MX2.out.below hq
  have MY1_ := MY1.out.below hq
  have MY2_ := MY2.out.below hq
  have MZ1_ := MZ1.out.below hq
  have BB_ := Below.next hq BB.out BB.out.size
  clear K1 ML MO MM MX1 MX2 MY1 MY2 MZ1 BB hq
  have K1 := Lib.hid K1_
  have ML := Lib.hid ML_
  have MO := Lib.hid MO_
  have MM := Lib.hid MM_
  have MX1 := Lib.hid MX1_
  have MX2 := Lib.hid MX2_
  have MY1 := Lib.hid MY1_
  have MY2 := Lib.hid MY2_
  have MZ1 := Lib.hid MZ1_
  have BB := Lib.hid BB_
  clear K1_ ML_ MO_ MM_ MX1_ MX2_ MY1_ MY2_ MZ1_ BB_
  have MZ2 := MZ2_n
  clear MZ2_n
  go_wp2_with fail
  refine (impl_LackingPerformers_any _ _ L _ _ O _ _ M _ ML.out MO.out MM.out (by omega) (by omega) (by omega) CML).mono ?_
  rintro e w8 ⟨he, hq⟩
  rw [HLA.out, HONE.out] at he
  subst he
  have K1_ := K1.out.below hq
  have ML_ := ML.out.below hq
  have MO_ := MO.out.below hq
  have MM_ := MM.out.below hq
  have MX1_ := MX1.out.below hq
  have MX2_ := MX2.out.below hq
  have MY1_ := MY1.out.below hq
  have MY2_ := MY2.out.below hq
  have MZ1_ := MZ1.out.below hq
  have MZ2_ := MZ2.out.below hq
  have BB_ := Below.next hq BB.out BB.out.size
  clear K1 ML MO MM MX1 MX2 MY1 MY2 MZ1 MZ2 BB hq
  have K1 := Lib.hid K1_
  have ML := Lib.hid ML_
  have MO := Lib.hid MO_
  have MM := Lib.hid MM_
  have MX1 := Lib.hid MX1_
  have MX2 := Lib.hid MX2_
  have MY1 := Lib.hid MY1_
  have MY2 := Lib.hid MY2_
  have MZ1 := Lib.hid MZ1_
  have MZ2 := Lib.hid MZ2_
  have BB := Lib.hid BB_
  clear K1_ ML_ MO_ MM_ MX1_ MX2_ MY1_ MY2_ MZ1_ MZ2_ BB_
  go_wp2_with fail
  refine (spec_LackingPerformers_any _ _ L _ _ O _ _ M _ ML.out MO.out MM.out (by omega) (by omega) (by omega) CML).mono ?_
  rintro e w9 ⟨he, hq⟩
  rw [HLA.out, HONE.out] at he
  subst he
  have K1_ := K1.out.below hq
  have ML_ := ML.out.below hq
  have MO_ := MO.out.below hq
  have MM_ := MM.out.below hq
  have MX1_ := MX1.out.below hq
  have MX2_ := MX2.out.below hq
  have MY1_ := MY1.out.below hq
  have MY2_ := MY2.out.below hq
  have MZ1_ := MZ1.out.below hq
  have MZ2_ := MZ2.out.below hq
  have BB_ := Below.next hq BB.out BB.out.size
  clear K1 ML MO MM MX1 MX2 MY1 MY2 MZ1 MZ2 BB hq
  have K1 := Lib.hid K1_
  have ML := Lib.hid ML_
  have MO := Lib.hid MO_
  have MM := Lib.hid MM_
  have MX1 := Lib.hid MX1_
  have MX2 := Lib.hid MX2_
  have MY1 := Lib.hid MY1_
  have MY2 := Lib.hid MY2_
  have MZ1 := Lib.hid MZ1_
  have MZ2 := Lib.hid MZ2_
  have BB := Lib.hid BB_
  clear K1_ ML_ MO_ MM_ MX1_ MX2_ MY1_ MY2_ MZ1_ MZ2_ BB_
  go_wp2_with fail
  refine (drawIsCoverOf_any _ _ _ _ K1.out).mono ?_
  rintro e w10 ⟨A2, c2, P2, D2, d2, Q2, F2, f2, R2, H2, h2, T2, rfl, h1, h2', h3, h4, hq⟩
  have MP2_n := Lib.hid (Mem.of_own h1.2.1)
  have CMP2 := own_cap h1.2.1
  have BMP2 : P2.length ≤ 13 := h1.1
  have MQ2_n := Lib.hid (Mem.of_own h2'.2.1)
  have CMQ2 := own_cap h2'.2.1
  have BMQ2 : Q2.length ≤ 14 := h2'.1
  have MR2_n := Lib.hid (Mem.of_own h3.2.1)
  have CMR2 := own_cap h3.2.1
  have BMR2 : R2.length ≤ 14 := h3.1
  have MT2_n := Lib.hid (Mem.of_own h4.2.1)
  have CMT2 := own_cap h4.2.1
  have BMT2 : T2.length ≤ 15 := h4.1
  clear h1 h2' h3 h4
  have K1_ := K1.out.below hq
  have ML_ := ML.out.below hq
  have MO_ := MO.out.below hq
  have MM_ := MM.out.below hq
  have MX1_ := MX1.out.below hq
  have MX2_ := MX2.out.below hq
  have MY1_ := MY1.out.below hq
  have MY2_ := MY2.out.below hq
  have MZ1_ := MZ1.out.below hq
  have MZ2_ := MZ2.out.below hq
  have BB_ := Below.next hq BB.out BB.out.size
  clear K1 ML MO MM MX1 MX2 MY1 MY2 MZ1 MZ2 BB hq
  have K1 := Lib.hid K1_
  have ML := Lib.hid ML_
  have MO := Lib.hid MO_
  have MM := Lib.hid MM_
  have MX1 := Lib.hid MX1_
  have MX2 := Lib.hid MX2_
  have MY1 := Lib.hid MY1_
  have MY2 := Lib.hid MY2_
  have MZ1 := Lib.hid MZ1_
  have MZ2 := Lib.hid MZ2_
  have BB := Lib.hid BB_
  clear K1_ ML_ MO_ MM_ MX1_ MX2_ MY1_ MY2_ MZ1_ MZ2_ BB_
  have MP2 := MP2_n
  clear MP2_n
  have MQ2 := MQ2_n
  clear MQ2_n
  have MR2 := MR2_n
  clear MR2_n
  have MT2 := MT2_n
  clear MT2_n
  clear K1
  have HCS0 := Lib.hid (cs_is (L := P2) (a := Q2) (n := R2) (mv := T2))
  obtain ⟨ab2, h_ab2⟩ : ∃ v, abOk P2 Q2 R2 = v := ⟨_, rfl⟩
  have HA2 := Lib.hid h_ab2
  clear h_ab2
  obtain ⟨ic2, h_ic2⟩ : ∃ v, icV P2 Q2 R2 T2 = v := ⟨_, rfl⟩
  have HI2 := Lib.hid h_ic2
  clear h_ic2
  obtain ⟨cs2, h_cs2⟩ : ∃ v, csOk P2 Q2 R2 T2 = v := ⟨_, rfl⟩
  have HC2 := Lib.hid h_cs2
  clear h_cs2
  have HCS := Lib.hid (show cs2 = (ab2 && ic2) by rw [← HC2.out, ← HA2.out, ← HI2.out]; exact HCS0.out)
  clear HCS0
  go_wp2_with fail
  refine (impl_IsCoverOf_any _ _ P2 _ _ Q2 _ _ R2 _ _ T2 _ MP2.out MQ2.out MR2.out MT2.out (by omega) (by omega) (by omega) (by omega) CMP2 CMT2).mono ?_
  rintro e w11 ⟨he, hq⟩
  rw [HI2.out, HA2.out] at he
  subst he
  have ML_ := ML.out.below hq
  have MO_ := MO.out.below hq
  have MM_ := MM.out.below hq
  have MX1_ := MX1.out.below hq
  have MX2_ := MX2.out.below hq
  have MY1_ := MY1.out.below hq
  have MY2_ := MY2.out.below hq
  have MZ1_ := MZ1.out.below hq
  have MZ2_ := MZ2.out.below hq
  have MP2_ := MP2.out.below hq
  have MQ2_ := MQ2.out.below hq
  have MR2_ := MR2.out.below hq
  have MT2_ := MT2.out.below hq
  have BB_ := Below.next hq BB.out BB.out.size
  clear ML MO MM MX1 MX2 MY1 MY2 MZ1 MZ2 MP2 MQ2 MR2 MT2 BB hq
  have ML := Lib.hid ML_
  have MO := Lib.hid MO_
  have MM := Lib.hid MM_
  have MX1 := Lib.hid MX1_
  have MX2 := Lib.hid MX2_
  have MY1 := Lib.hid MY1_
  have MY2 := Lib.hid MY2_
  have MZ1 := Lib.hid MZ1_
  have MZ2 := Lib.hid MZ2_
  have MP2 := Lib.hid MP2_
  have MQ2 := Lib.hid MQ2_
  have MR2 := Lib.hid MR2_
  have MT2 := Lib.hid MT2_
  have BB := Lib.hid BB_
  clear ML_ MO_ MM_ MX1_ MX2_ MY1_ MY2_ MZ1_ MZ2_ MP2_ MQ2_ MR2_ MT2_ BB_
  go_wp2_with fail
  refine (spec_IsCoverOf_any _ _ P2 _ _ Q2 _ _ R2 _ _ T2 _ MP2.out MQ2.out MR2.out MT2.out (by omega) (by omega) (by omega) (by omega) CMP2 CMT2).mono ?_
  rintro e w12 ⟨he, hq⟩
  rw [HI2.out, HA2.out] at he
  subst he
  have ML_ := ML.out.below hq
  have MO_ := MO.out.below hq
  have MM_ := MM.out.below hq
  have MX1_ := MX1.out.below hq
  have MX2_ := MX2.out.below hq
  have MY1_ := MY1.out.below hq
  have MY2_ := MY2.out.below hq
  have MZ1_ := MZ1.out.below hq
  have MZ2_ := MZ2.out.below hq
  have MP2_ := MP2.out.below hq
  have MQ2_ := MQ2.out.below hq
  have MR2_ := MR2.out.below hq
  have MT2_ := MT2.out.below hq
  have BB_ := Below.next hq BB.out BB.out.size
  clear ML MO MM MX1 MX2 MY1 MY2 MZ1 MZ2 MP2 MQ2 MR2 MT2 BB hq
  have ML := Lib.hid ML_
  have MO := Lib.hid MO_
  have MM := Lib.hid MM_
  have MX1 := Lib.hid MX1_
  have MX2 := Lib.hid MX2_
  have MY1 := Lib.hid MY1_
  have MY2 := Lib.hid MY2_
  have MZ1 := Lib.hid MZ1_
  have MZ2 := Lib.hid MZ2_
  have MP2 := Lib.hid MP2_
  have MQ2 := Lib.hid MQ2_
  have MR2 := Lib.hid MR2_
  have MT2 := Lib.hid MT2_
  have BB := Lib.hid BB_
  clear ML_ MO_ MM_ MX1_ MX2_ MY1_ MY2_ MZ1_ MZ2_ MP2_ MQ2_ MR2_ MT2_ BB_
  go_upto_region 15 with (fail)
  go_cut [235] from 153 to 235 (fun v wx => v = .bool false ∧ Below W.heap.size W wx ∧ Hid (Mem wx A' (spots L)) ∧ Hid (Mem wx B' (ints O)) ∧ Hid (Mem wx C' (ints M)) ∧ Hid (Mem wx X1A (ints X)) ∧ Hid (Mem wx X2A (ints X)) ∧ Hid (Mem wx Y2A (ints Y)) ∧ Hid (Mem wx Z2A (ints Z)) ∧ Hid (Mem wx A2 (spots P2)) ∧ Hid (Mem wx D2 (ints Q2)) ∧ Hid (Mem wx F2 (ints R2)) ∧ Hid (Mem wx H2 (ints T2)))
  case first => as_aux_lemma =>
    cases one
    · have e : lk = false := HLK.out.trans (Bool.false_and _)
      subst e
      clear HLK
      go_wp2_with fail
      refine (qInts_same _ _ _ _ (X) _ MX1.out MX2.out hlk).mono ?_
      rintro e w201 ⟨rfl, hq⟩
      have ML_ := ML.out.below hq
      have MO_ := MO.out.below hq
      have MM_ := MM.out.below hq
      have MX1_ := MX1.out.below hq
      have MX2_ := MX2.out.below hq
      have MY1_ := MY1.out.below hq
      have MY2_ := MY2.out.below hq
      have MZ1_ := MZ1.out.below hq
      have MZ2_ := MZ2.out.below hq
      have MP2_ := MP2.out.below hq
      have MQ2_ := MQ2.out.below hq
      have MR2_ := MR2.out.below hq
      have MT2_ := MT2.out.below hq
      have BB_ := Below.next hq BB.out BB.out.size
      clear ML MO MM MX1 MX2 MY1 MY2 MZ1 MZ2 MP2 MQ2 MR2 MT2 BB hq
      have ML := Lib.hid ML_
      have MO := Lib.hid MO_
      have MM := Lib.hid MM_
      have MX1 := Lib.hid MX1_
      have MX2 := Lib.hid MX2_
      have MY1 := Lib.hid MY1_
      have MY2 := Lib.hid MY2_
      have MZ1 := Lib.hid MZ1_
      have MZ2 := Lib.hid MZ2_
      have MP2 := Lib.hid MP2_
      have MQ2 := Lib.hid MQ2_
      have MR2 := Lib.hid MR2_
      have MT2 := Lib.hid MT2_
      have BB := Lib.hid BB_
      clear ML_ MO_ MM_ MX1_ MX2_ MY1_ MY2_ MZ1_ MZ2_ MP2_ MQ2_ MR2_ MT2_ BB_
      go_wp2_with fail
      refine (qInts_same _ _ _ _ (Y) _ MY1.out MY2.out hop).mono ?_
      rintro e w202 ⟨rfl, hq⟩
      have ML_ := ML.out.below hq
      have MO_ := MO.out.below hq
      have MM_ := MM.out.below hq
      have MX1_ := MX1.out.below hq
      have MX2_ := MX2.out.below hq
      have MY1_ := MY1.out.below hq
      have MY2_ := MY2.out.below hq
      have MZ1_ := MZ1.out.below hq
      have MZ2_ := MZ2.out.below hq
      have MP2_ := MP2.out.below hq
      have MQ2_ := MQ2.out.below hq
      have MR2_ := MR2.out.below hq
      have MT2_ := MT2.out.below hq
      have BB_ := Below.next hq BB.out BB.out.size
      clear ML MO MM MX1 MX2 MY1 MY2 MZ1 MZ2 MP2 MQ2 MR2 MT2 BB hq
      have ML := Lib.hid ML_
      have MO := Lib.hid MO_
      have MM := Lib.hid MM_
      have MX1 := Lib.hid MX1_
      have MX2 := Lib.hid MX2_
      have MY1 := Lib.hid MY1_
      have MY2 := Lib.hid MY2_
      have MZ1 := Lib.hid MZ1_
      have MZ2 := Lib.hid MZ2_
      have MP2 := Lib.hid MP2_
      have MQ2 := Lib.hid MQ2_
      have MR2 := Lib.hid MR2_
      have MT2 := Lib.hid MT2_
      have BB := Lib.hid BB_
      clear ML_ MO_ MM_ MX1_ MX2_ MY1_ MY2_ MZ1_ MZ2_ MP2_ MQ2_ MR2_ MT2_ BB_
      go_wp2_with fail
      refine (qInts_same _ _ _ _ (Z) _ MZ1.out MZ2.out hsp).mono ?_
      rintro e w203 ⟨rfl, hq⟩
      have ML_ := ML.out.below hq
      have MO_ := MO.out.below hq
      have MM_ := MM.out.below hq
      have MX1_ := MX1.out.below hq
      have MX2_ := MX2.out.below hq
      have MY1_ := MY1.out.below hq
      have MY2_ := MY2.out.below hq
      have MZ1_ := MZ1.out.below hq
      have MZ2_ := MZ2.out.below hq
      have MP2_ := MP2.out.below hq
      have MQ2_ := MQ2.out.below hq
      have MR2_ := MR2.out.below hq
      have MT2_ := MT2.out.below hq
      have BB_ := Below.next hq BB.out BB.out.size
      clear ML MO MM MX1 MX2 MY1 MY2 MZ1 MZ2 MP2 MQ2 MR2 MT2 BB hq
      have ML := Lib.hid ML_
      have MO := Lib.hid MO_
      have MM := Lib.hid MM_
      have MX1 := Lib.hid MX1_
      have MX2 := Lib.hid MX2_
      have MY1 := Lib.hid MY1_
      have MY2 := Lib.hid MY2_
      have MZ1 := Lib.hid MZ1_
      have MZ2 := Lib.hid MZ2_
      have MP2 := Lib.hid MP2_
      have MQ2 := Lib.hid MQ2_
      have MR2 := Lib.hid MR2_
      have MT2 := Lib.hid MT2_
      have BB := Lib.hid BB_
      clear ML_ MO_ MM_ MX1_ MX2_ MY1_ MY2_ MZ1_ MZ2_ MP2_ MQ2_ MR2_ MT2_ BB_
      go_wp2_with fail
      refine (IsAbsence_any _ _ L _ _ O _ _ M _ ML.out MO.out MM.out (by omega) (by omega) (by omega) CML).mono ?_
      rintro e w204 ⟨he, hq⟩
      rw [HONE.out] at he
      subst he
      have ML_ := ML.out.below hq
      have MO_ := MO.out.below hq
      have MM_ := MM.out.below hq
      have MX1_ := MX1.out.below hq
      have MX2_ := MX2.out.below hq
      have MY1_ := MY1.out.below hq
      have MY2_ := MY2.out.below hq
      have MZ1_ := MZ1.out.below hq
      have MZ2_ := MZ2.out.below hq
      have MP2_ := MP2.out.below hq
      have MQ2_ := MQ2.out.below hq
      have MR2_ := MR2.out.below hq
      have MT2_ := MT2.out.below hq
      have BB_ := Below.next hq BB.out BB.out.size
      clear ML MO MM MX1 MX2 MY1 MY2 MZ1 MZ2 MP2 MQ2 MR2 MT2 BB hq
      have ML := Lib.hid ML_
      have MO := Lib.hid MO_
      have MM := Lib.hid MM_
      have MX1 := Lib.hid MX1_
      have MX2 := Lib.hid MX2_
      have MY1 := Lib.hid MY1_
      have MY2 := Lib.hid MY2_
      have MZ1 := Lib.hid MZ1_
      have MZ2 := Lib.hid MZ2_
      have MP2 := Lib.hid MP2_
      have MQ2 := Lib.hid MQ2_
      have MR2 := Lib.hid MR2_
      have MT2 := Lib.hid MT2_
      have BB := Lib.hid BB_
      clear ML_ MO_ MM_ MX1_ MX2_ MY1_ MY2_ MZ1_ MZ2_ MP2_ MQ2_ MR2_ MT2_ BB_
      go_wp2_with fail
      go_meet
      exact ⟨rfl, BB.out, ML, MO, MM, MX1, MX2, MY2, MZ2, MP2, MQ2, MR2, MT2⟩
    by_cases hz : la = 0
    · have e : lk = true := HLK.out.trans (by rw [hz]; rfl)
      subst e hz
      clear HLK
      go_wp2_with fail
      refine (qInts_same _ _ _ _ (X) _ MX1.out MX2.out hlk).mono ?_
      rintro e w201 ⟨rfl, hq⟩
      have ML_ := ML.out.below hq
      have MO_ := MO.out.below hq
      have MM_ := MM.out.below hq
      have MX1_ := MX1.out.below hq
      have MX2_ := MX2.out.below hq
      have MY1_ := MY1.out.below hq
      have MY2_ := MY2.out.below hq
      have MZ1_ := MZ1.out.below hq
      have MZ2_ := MZ2.out.below hq
      have MP2_ := MP2.out.below hq
      have MQ2_ := MQ2.out.below hq
      have MR2_ := MR2.out.below hq
      have MT2_ := MT2.out.below hq
      have BB_ := Below.next hq BB.out BB.out.size
      clear ML MO MM MX1 MX2 MY1 MY2 MZ1 MZ2 MP2 MQ2 MR2 MT2 BB hq
      have ML := Lib.hid ML_
      have MO := Lib.hid MO_
      have MM := Lib.hid MM_
      have MX1 := Lib.hid MX1_
      have MX2 := Lib.hid MX2_
      have MY1 := Lib.hid MY1_
      have MY2 := Lib.hid MY2_
      have MZ1 := Lib.hid MZ1_
      have MZ2 := Lib.hid MZ2_
      have MP2 := Lib.hid MP2_
      have MQ2 := Lib.hid MQ2_
      have MR2 := Lib.hid MR2_
      have MT2 := Lib.hid MT2_
      have BB := Lib.hid BB_
      clear ML_ MO_ MM_ MX1_ MX2_ MY1_ MY2_ MZ1_ MZ2_ MP2_ MQ2_ MR2_ MT2_ BB_
      go_wp2_with fail
      refine (qInts_same _ _ _ _ (Y) _ MY1.out MY2.out hop).mono ?_
      rintro e w202 ⟨rfl, hq⟩
      have ML_ := ML.out.below hq
      have MO_ := MO.out.below hq
      have MM_ := MM.out.below hq
      have MX1_ := MX1.out.below hq
      have MX2_ := MX2.out.below hq
      have MY1_ := MY1.out.below hq
      have MY2_ := MY2.out.below hq
      have MZ1_ := MZ1.out.below hq
      have MZ2_ := MZ2.out.below hq
      have MP2_ := MP2.out.below hq
      have MQ2_ := MQ2.out.below hq
      have MR2_ := MR2.out.below hq
      have MT2_ := MT2.out.below hq
      have BB_ := Below.next hq BB.out BB.out.size
      clear ML MO MM MX1 MX2 MY1 MY2 MZ1 MZ2 MP2 MQ2 MR2 MT2 BB hq
      have ML := Lib.hid ML_
      have MO := Lib.hid MO_
      have MM := Lib.hid MM_
      have MX1 := Lib.hid MX1_
      have MX2 := Lib.hid MX2_
      have MY1 := Lib.hid MY1_
      have MY2 := Lib.hid MY2_
      have MZ1 := Lib.hid MZ1_
      have MZ2 := Lib.hid MZ2_
      have MP2 := Lib.hid MP2_
      have MQ2 := Lib.hid MQ2_
      have MR2 := Lib.hid MR2_
      have MT2 := Lib.hid MT2_
      have BB := Lib.hid BB_
      clear ML_ MO_ MM_ MX1_ MX2_ MY1_ MY2_ MZ1_ MZ2_ MP2_ MQ2_ MR2_ MT2_ BB_
      go_wp2_with fail
      refine (qInts_same _ _ _ _ (Z) _ MZ1.out MZ2.out hsp).mono ?_
      rintro e w203 ⟨rfl, hq⟩
      have ML_ := ML.out.below hq
      have MO_ := MO.out.below hq
      have MM_ := MM.out.below hq
      have MX1_ := MX1.out.below hq
      have MX2_ := MX2.out.below hq
      have MY1_ := MY1.out.below hq
      have MY2_ := MY2.out.below hq
      have MZ1_ := MZ1.out.below hq
      have MZ2_ := MZ2.out.below hq
      have MP2_ := MP2.out.below hq
      have MQ2_ := MQ2.out.below hq
      have MR2_ := MR2.out.below hq
      have MT2_ := MT2.out.below hq
      have BB_ := Below.next hq BB.out BB.out.size
      clear ML MO MM MX1 MX2 MY1 MY2 MZ1 MZ2 MP2 MQ2 MR2 MT2 BB hq
      have ML := Lib.hid ML_
      have MO := Lib.hid MO_
      have MM := Lib.hid MM_
      have MX1 := Lib.hid MX1_
      have MX2 := Lib.hid MX2_
      have MY1 := Lib.hid MY1_
      have MY2 := Lib.hid MY2_
      have MZ1 := Lib.hid MZ1_
      have MZ2 := Lib.hid MZ2_
      have MP2 := Lib.hid MP2_
      have MQ2 := Lib.hid MQ2_
      have MR2 := Lib.hid MR2_
      have MT2 := Lib.hid MT2_
      have BB := Lib.hid BB_
      clear ML_ MO_ MM_ MX1_ MX2_ MY1_ MY2_ MZ1_ MZ2_ MP2_ MQ2_ MR2_ MT2_ BB_
      go_wp2_with fail
      refine (IsAbsence_any _ _ L _ _ O _ _ M _ ML.out MO.out MM.out (by omega) (by omega) (by omega) CML).mono ?_
      rintro e w204 ⟨he, hq⟩
      rw [HONE.out] at he
      subst he
      have ML_ := ML.out.below hq
      have MO_ := MO.out.below hq
      have MM_ := MM.out.below hq
      have MX1_ := MX1.out.below hq
      have MX2_ := MX2.out.below hq
      have MY1_ := MY1.out.below hq
      have MY2_ := MY2.out.below hq
      have MZ1_ := MZ1.out.below hq
      have MZ2_ := MZ2.out.below hq
      have MP2_ := MP2.out.below hq
      have MQ2_ := MQ2.out.below hq
      have MR2_ := MR2.out.below hq
      have MT2_ := MT2.out.below hq
      have BB_ := Below.next hq BB.out BB.out.size
      clear ML MO MM MX1 MX2 MY1 MY2 MZ1 MZ2 MP2 MQ2 MR2 MT2 BB hq
      have ML := Lib.hid ML_
      have MO := Lib.hid MO_
      have MM := Lib.hid MM_
      have MX1 := Lib.hid MX1_
      have MX2 := Lib.hid MX2_
      have MY1 := Lib.hid MY1_
      have MY2 := Lib.hid MY2_
      have MZ1 := Lib.hid MZ1_
      have MZ2 := Lib.hid MZ2_
      have MP2 := Lib.hid MP2_
      have MQ2 := Lib.hid MQ2_
      have MR2 := Lib.hid MR2_
      have MT2 := Lib.hid MT2_
      have BB := Lib.hid BB_
      clear ML_ MO_ MM_ MX1_ MX2_ MY1_ MY2_ MZ1_ MZ2_ MP2_ MQ2_ MR2_ MT2_ BB_
      go_wp2_with fail
      go_meet
      exact ⟨rfl, BB.out, ML, MO, MM, MX1, MX2, MY2, MZ2, MP2, MQ2, MR2, MT2⟩
    · have e : lk = false := HLK.out.trans (by rw [decide_eq_false hz]; rfl)
      subst e
      clear HLK
      have hz2 : (la == 0) = false := beq_eq_false_iff_ne.2 hz
      go_wp2_with fail
      refine (qInts_same _ _ _ _ (X) _ MX1.out MX2.out hlk).mono ?_
      rintro e w201 ⟨rfl, hq⟩
      have ML_ := ML.out.below hq
      have MO_ := MO.out.below hq
      have MM_ := MM.out.below hq
      have MX1_ := MX1.out.below hq
      have MX2_ := MX2.out.below hq
      have MY1_ := MY1.out.below hq
      have MY2_ := MY2.out.below hq
      have MZ1_ := MZ1.out.below hq
      have MZ2_ := MZ2.out.below hq
      have MP2_ := MP2.out.below hq
      have MQ2_ := MQ2.out.below hq
      have MR2_ := MR2.out.below hq
      have MT2_ := MT2.out.below hq
      have BB_ := Below.next hq BB.out BB.out.size
      clear ML MO MM MX1 MX2 MY1 MY2 MZ1 MZ2 MP2 MQ2 MR2 MT2 BB hq
      have ML := Lib.hid ML_
      have MO := Lib.hid MO_
      have MM := Lib.hid MM_
      have MX1 := Lib.hid MX1_
      have MX2 := Lib.hid MX2_
      have MY1 := Lib.hid MY1_
      have MY2 := Lib.hid MY2_
      have MZ1 := Lib.hid MZ1_
      have MZ2 := Lib.hid MZ2_
      have MP2 := Lib.hid MP2_
      have MQ2 := Lib.hid MQ2_
      have MR2 := Lib.hid MR2_
      have MT2 := Lib.hid MT2_
      have BB := Lib.hid BB_
      clear ML_ MO_ MM_ MX1_ MX2_ MY1_ MY2_ MZ1_ MZ2_ MP2_ MQ2_ MR2_ MT2_ BB_
      go_wp2_with fail
      refine (qInts_same _ _ _ _ (Y) _ MY1.out MY2.out hop).mono ?_
      rintro e w202 ⟨rfl, hq⟩
      have ML_ := ML.out.below hq
      have MO_ := MO.out.below hq
      have MM_ := MM.out.below hq
      have MX1_ := MX1.out.below hq
      have MX2_ := MX2.out.below hq
      have MY1_ := MY1.out.below hq
      have MY2_ := MY2.out.below hq
      have MZ1_ := MZ1.out.below hq
      have MZ2_ := MZ2.out.below hq
      have MP2_ := MP2.out.below hq
      have MQ2_ := MQ2.out.below hq
      have MR2_ := MR2.out.below hq
      have MT2_ := MT2.out.below hq
      have BB_ := Below.next hq BB.out BB.out.size
      clear ML MO MM MX1 MX2 MY1 MY2 MZ1 MZ2 MP2 MQ2 MR2 MT2 BB hq
      have ML := Lib.hid ML_
      have MO := Lib.hid MO_
      have MM := Lib.hid MM_
      have MX1 := Lib.hid MX1_
      have MX2 := Lib.hid MX2_
      have MY1 := Lib.hid MY1_
      have MY2 := Lib.hid MY2_
      have MZ1 := Lib.hid MZ1_
      have MZ2 := Lib.hid MZ2_
      have MP2 := Lib.hid MP2_
      have MQ2 := Lib.hid MQ2_
      have MR2 := Lib.hid MR2_
      have MT2 := Lib.hid MT2_
      have BB := Lib.hid BB_
      clear ML_ MO_ MM_ MX1_ MX2_ MY1_ MY2_ MZ1_ MZ2_ MP2_ MQ2_ MR2_ MT2_ BB_
      go_wp2_with fail
      refine (qInts_same _ _ _ _ (Z) _ MZ1.out MZ2.out hsp).mono ?_
      rintro e w203 ⟨rfl, hq⟩
      have ML_ := ML.out.below hq
      have MO_ := MO.out.below hq
      have MM_ := MM.out.below hq
      have MX1_ := MX1.out.below hq
      have MX2_ := MX2.out.below hq
      have MY1_ := MY1.out.below hq
      have MY2_ := MY2.out.below hq
      have MZ1_ := MZ1.out.below hq
      have MZ2_ := MZ2.out.below hq
      have MP2_ := MP2.out.below hq
      have MQ2_ := MQ2.out.below hq
      have MR2_ := MR2.out.below hq
      have MT2_ := MT2.out.below hq
      have BB_ := Below.next hq BB.out BB.out.size
      clear ML MO MM MX1 MX2 MY1 MY2 MZ1 MZ2 MP2 MQ2 MR2 MT2 BB hq
      have ML := Lib.hid ML_
      have MO := Lib.hid MO_
      have MM := Lib.hid MM_
      have MX1 := Lib.hid MX1_
      have MX2 := Lib.hid MX2_
      have MY1 := Lib.hid MY1_
      have MY2 := Lib.hid MY2_
      have MZ1 := Lib.hid MZ1_
      have MZ2 := Lib.hid MZ2_
      have MP2 := Lib.hid MP2_
      have MQ2 := Lib.hid MQ2_
      have MR2 := Lib.hid MR2_
      have MT2 := Lib.hid MT2_
      have BB := Lib.hid BB_
      clear ML_ MO_ MM_ MX1_ MX2_ MY1_ MY2_ MZ1_ MZ2_ MP2_ MQ2_ MR2_ MT2_ BB_
      go_wp2_with fail
      refine (IsAbsence_any _ _ L _ _ O _ _ M _ ML.out MO.out MM.out (by omega) (by omega) (by omega) CML).mono ?_
      rintro e w204 ⟨he, hq⟩
      rw [HONE.out] at he
      subst he
      have ML_ := ML.out.below hq
      have MO_ := MO.out.below hq
      have MM_ := MM.out.below hq
      have MX1_ := MX1.out.below hq
      have MX2_ := MX2.out.below hq
      have MY1_ := MY1.out.below hq
      have MY2_ := MY2.out.below hq
      have MZ1_ := MZ1.out.below hq
      have MZ2_ := MZ2.out.below hq
      have MP2_ := MP2.out.below hq
      have MQ2_ := MQ2.out.below hq
      have MR2_ := MR2.out.below hq
      have MT2_ := MT2.out.below hq
      have BB_ := Below.next hq BB.out BB.out.size
      clear ML MO MM MX1 MX2 MY1 MY2 MZ1 MZ2 MP2 MQ2 MR2 MT2 BB hq
      have ML := Lib.hid ML_
      have MO := Lib.hid MO_
      have MM := Lib.hid MM_
      have MX1 := Lib.hid MX1_
      have MX2 := Lib.hid MX2_
      have MY1 := Lib.hid MY1_
      have MY2 := Lib.hid MY2_
      have MZ1 := Lib.hid MZ1_
      have MZ2 := Lib.hid MZ2_
      have MP2 := Lib.hid MP2_
      have MQ2 := Lib.hid MQ2_
      have MR2 := Lib.hid MR2_
      have MT2 := Lib.hid MT2_
      have BB := Lib.hid BB_
      clear ML_ MO_ MM_ MX1_ MX2_ MY1_ MY2_ MZ1_ MZ2_ MP2_ MQ2_ MR2_ MT2_ BB_
      go_wp2_with fail
      go_meet
      exact ⟨rfl, BB.out, ML, MO, MM, MX1, MX2, MY2, MZ2, MP2, MQ2, MR2, MT2⟩
  case rest => as_aux_lemma =>
    obtain ⟨rfl, hbc, ML, MO, MM, MX1, MX2, MY2, MZ2, MP2, MQ2, MR2, MT2⟩ := hcut
    have BB := Lib.hid hbc
    clear hbc MY1 MZ1
    go_upto_region 17 with (fail)
    rename World => wA
    go_cut [239] from 236 to 239 (fun v wx => v = .bool cs2 ∧ wx = wA)
    case first => as_aux_lemma =>
      cases ab2
      · have e : cs2 = false := HCS.out.trans (Bool.false_and _)
        subst e
        clear HCS
        go_wp2_with fail
        go_meet
        exact ⟨rfl, rfl⟩
      · have e : cs2 = ic2 := HCS.out.trans (Bool.true_and _)
        subst e
        clear HCS
        go_wp2_with fail
        go_meet
        exact ⟨rfl, rfl⟩
    case rest => as_aux_lemma =>
      obtain ⟨rfl, rfl⟩ := hcut
      go_upto_if 239 with (fail)
      go_cut [] from 240 to 373 (fun wx => Below W.heap.size W wx ∧ Hid (Mem wx A' (spots L)) ∧ Hid (Mem wx B' (ints O)) ∧ Hid (Mem wx C' (ints M)) ∧ Hid (Mem wx X1A (ints X)) ∧ Hid (Mem wx X2A (ints X)) ∧ Hid (Mem wx Y2A (ints Y)) ∧ Hid (Mem wx Z2A (ints Z)))
      case first => as_aux_lemma =>
        cases cs2
        · go_wp2_with fail
          go_meet
          exact ⟨BB.out, ML, MO, MM, MX1, MX2, MY2, MZ2⟩
        have hi2 : abOk P2 Q2 R2 = true := by
          have h := HC2.out
          rw [csOk, Bool.and_eq_true] at h
          exact h.1
        have hco : covOk P2.length Q2 R2 T2 = true := by
          have h := HC2.out
          rw [csOk, Bool.and_eq_true] at h
          exact h.2
        obtain ⟨hA, hle⟩ := cov_least hi2 hco
        have HK2 := Lib.hid (show lkB P2 Q2 R2 = true by rw [lkB, hi2, hA]; rfl)
        have HN2 := Lib.hid (show lkN P2 Q2 R2 = lcN P2 Q2 R2 by rw [lkN, hi2]; rfl)
        have hcl := cdV_len HC2.out
        have HCH := Lib.hid (fun h => cdV_chart HC2.out h)
        have HND := Lib.hid (fun (y : Nat) (s : Sp) h1 h2 => cdV_needed HC2.out (y := y) (s := s) h1 h2)
        have HRI := Lib.hid (abOk_iff.1 hi2).2.2
        clear hi2 hco hA
        obtain ⟨s2, h_s2⟩ : ∃ v, csV P2 Q2 R2 T2 = v := ⟨_, rfl⟩
        have HS2 := Lib.hid h_s2
        clear h_s2
        obtain ⟨n2, h_n2⟩ : ∃ v, lcN P2 Q2 R2 = v := ⟨_, rfl⟩
        have HM2 := Lib.hid h_n2
        clear h_n2
        obtain ⟨V, h_V⟩ : ∃ v, cdV P2 Q2 R2 T2 = v := ⟨_, rfl⟩
        have HV := Lib.hid h_V
        clear h_V
        rw [HM2.out, HS2.out] at hle
        rw [HV.out] at hcl
        rw [HM2.out] at HN2
        have hle2 : ¬ s2 < n2 := by omega
        clear hle
        have HCH2 := Lib.hid (show 0 < V.length → chOk V = true by rw [← HV.out]; exact HCH.out)
        have HND2 := Lib.hid (show ∀ (y : Nat) (s : Sp), (y : Int) ∈ R2 → P2[y]? = some s → s ∈ V by rw [← HV.out]; exact HND.out)
        clear HCH HND
        go_wp2_with fail
        refine (impl_CoverSum_any _ _ P2 _ _ Q2 _ _ R2 _ _ T2 _ MP2.out MQ2.out MR2.out MT2.out (by omega) (by omega) (by omega) (by omega) CMP2 CMT2).mono ?_
        rintro e w401 ⟨he, hq⟩
        rw [HS2.out, HC2.out] at he
        subst he
        have ML_ := ML.out.below hq
        have MO_ := MO.out.below hq
        have MM_ := MM.out.below hq
        have MX1_ := MX1.out.below hq
        have MX2_ := MX2.out.below hq
        have MY2_ := MY2.out.below hq
        have MZ2_ := MZ2.out.below hq
        have MP2_ := MP2.out.below hq
        have MQ2_ := MQ2.out.below hq
        have MR2_ := MR2.out.below hq
        have MT2_ := MT2.out.below hq
        have BB_ := Below.next hq BB.out BB.out.size
        clear ML MO MM MX1 MX2 MY2 MZ2 MP2 MQ2 MR2 MT2 BB hq
        have ML := Lib.hid ML_
        have MO := Lib.hid MO_
        have MM := Lib.hid MM_
        have MX1 := Lib.hid MX1_
        have MX2 := Lib.hid MX2_
        have MY2 := Lib.hid MY2_
        have MZ2 := Lib.hid MZ2_
        have MP2 := Lib.hid MP2_
        have MQ2 := Lib.hid MQ2_
        have MR2 := Lib.hid MR2_
        have MT2 := Lib.hid MT2_
        have BB := Lib.hid BB_
        clear ML_ MO_ MM_ MX1_ MX2_ MY2_ MZ2_ MP2_ MQ2_ MR2_ MT2_ BB_
        go_wp2_with fail
        refine (spec_CoverSum_any _ _ P2 _ _ Q2 _ _ R2 _ _ T2 _ MP2.out MQ2.out MR2.out MT2.out (by omega) (by omega) (by omega) (by omega) CMP2 CMT2).mono ?_
        rintro e w402 ⟨he, hq⟩
        rw [HS2.out, HC2.out] at he
        subst he
        have ML_ := ML.out.below hq
        have MO_ := MO.out.below hq
        have MM_ := MM.out.below hq
        have MX1_ := MX1.out.below hq
        have MX2_ := MX2.out.below hq
        have MY2_ := MY2.out.below hq
        have MZ2_ := MZ2.out.below hq
        have MP2_ := MP2.out.below hq
        have MQ2_ := MQ2.out.below hq
        have MR2_ := MR2.out.below hq
        have MT2_ := MT2.out.below hq
        have BB_ := Below.next hq BB.out BB.out.size
        clear ML MO MM MX1 MX2 MY2 MZ2 MP2 MQ2 MR2 MT2 BB hq
        have ML := Lib.hid ML_
        have MO := Lib.hid MO_
        have MM := Lib.hid MM_
        have MX1 := Lib.hid MX1_
        have MX2 := Lib.hid MX2_
        have MY2 := Lib.hid MY2_
        have MZ2 := Lib.hid MZ2_
        have MP2 := Lib.hid MP2_
        have MQ2 := Lib.hid MQ2_
        have MR2 := Lib.hid MR2_
        have MT2 := Lib.hid MT2_
        have BB := Lib.hid BB_
        clear ML_ MO_ MM_ MX1_ MX2_ MY2_ MZ2_ MP2_ MQ2_ MR2_ MT2_ BB_
        go_wp2_with fail
        refine (impl_LeastCoverOf_any _ _ P2 _ _ Q2 _ _ R2 _ MP2.out MQ2.out MR2.out (by omega) (by omega) (by omega) CMP2).mono ?_
        rintro e w403 ⟨_, _, he, _, hq⟩
        rw [HN2.out, HK2.out] at he
        subst he
        have ML_ := ML.out.below hq
        have MO_ := MO.out.below hq
        have MM_ := MM.out.below hq
        have MX1_ := MX1.out.below hq
        have MX2_ := MX2.out.below hq
        have MY2_ := MY2.out.below hq
        have MZ2_ := MZ2.out.below hq
        have MP2_ := MP2.out.below hq
        have MQ2_ := MQ2.out.below hq
        have MR2_ := MR2.out.below hq
        have MT2_ := MT2.out.below hq
        have BB_ := Below.next hq BB.out BB.out.size
        clear ML MO MM MX1 MX2 MY2 MZ2 MP2 MQ2 MR2 MT2 BB hq
        have ML := Lib.hid ML_
        have MO := Lib.hid MO_
        have MM := Lib.hid MM_
        have MX1 := Lib.hid MX1_
        have MX2 := Lib.hid MX2_
        have MY2 := Lib.hid MY2_
        have MZ2 := Lib.hid MZ2_
        have MP2 := Lib.hid MP2_
        have MQ2 := Lib.hid MQ2_
        have MR2 := Lib.hid MR2_
        have MT2 := Lib.hid MT2_
        have BB := Lib.hid BB_
        clear ML_ MO_ MM_ MX1_ MX2_ MY2_ MZ2_ MP2_ MQ2_ MR2_ MT2_ BB_
        go_wp2_with fail
        refine (spec_LeastCoverOf_any _ _ P2 _ _ Q2 _ _ R2 _ MP2.out MQ2.out MR2.out (by omega) (by omega) (by omega) CMP2).mono ?_
        rintro e w404 ⟨_, _, he, _, hq⟩
        rw [HN2.out, HK2.out] at he
        subst he
        have ML_ := ML.out.below hq
        have MO_ := MO.out.below hq
        have MM_ := MM.out.below hq
        have MX1_ := MX1.out.below hq
        have MX2_ := MX2.out.below hq
        have MY2_ := MY2.out.below hq
        have MZ2_ := MZ2.out.below hq
        have MP2_ := MP2.out.below hq
        have MQ2_ := MQ2.out.below hq
        have MR2_ := MR2.out.below hq
        have MT2_ := MT2.out.below hq
        have BB_ := Below.next hq BB.out BB.out.size
        clear ML MO MM MX1 MX2 MY2 MZ2 MP2 MQ2 MR2 MT2 BB hq
        have ML := Lib.hid ML_
        have MO := Lib.hid MO_
        have MM := Lib.hid MM_
        have MX1 := Lib.hid MX1_
        have MX2 := Lib.hid MX2_
        have MY2 := Lib.hid MY2_
        have MZ2 := Lib.hid MZ2_
        have MP2 := Lib.hid MP2_
        have MQ2 := Lib.hid MQ2_
        have MR2 := Lib.hid MR2_
        have MT2 := Lib.hid MT2_
        have BB := Lib.hid BB_
        clear ML_ MO_ MM_ MX1_ MX2_ MY2_ MZ2_ MP2_ MQ2_ MR2_ MT2_ BB_
        go_wp2_with fail
        refine (impl_CoveredSpots_any _ _ P2 _ _ Q2 _ _ R2 _ _ T2 _ MP2.out MQ2.out MR2.out MT2.out (by omega) (by omega) (by omega) (by omega) CMP2 CMT2).mono ?_
        rintro e w405 ⟨V1A, V1c, he, ho, hq⟩
        rw [HV.out, HC2.out] at he
        rw [HV.out] at ho
        subst he
        have MV1_n := Lib.hid (Mem.of_own ho)
        have CMV1 := own_cap ho
        clear ho
        have ML_ := ML.out.below hq
        have MO_ := MO.out.below hq
        have MM_ := MM.out.below hq
        have MX1_ := MX1.out.below hq
        have MX2_ := MX2.out.below hq
        have MY2_ := MY2.out.below hq
        have MZ2_ := MZ2.out.below hq
        have MP2_ := MP2.out.below hq
        have MQ2_ := MQ2.out.below hq
        have MR2_ := MR2.out.below hq
        have MT2_ := MT2.out.below hq
        have BB_ := Below.next hq BB.out BB.out.size
        clear ML MO MM MX1 MX2 MY2 MZ2 MP2 MQ2 MR2 MT2 BB hq
        have ML := Lib.hid ML_
        have MO := Lib.hid MO_
        have MM := Lib.hid MM_
        have MX1 := Lib.hid MX1_
        have MX2 := Lib.hid MX2_
        have MY2 := Lib.hid MY2_
        have MZ2 := Lib.hid MZ2_
        have MP2 := Lib.hid MP2_
        have MQ2 := Lib.hid MQ2_
        have MR2 := Lib.hid MR2_
        have MT2 := Lib.hid MT2_
        have BB := Lib.hid BB_
        clear ML_ MO_ MM_ MX1_ MX2_ MY2_ MZ2_ MP2_ MQ2_ MR2_ MT2_ BB_
        have MV1 := MV1_n
        clear MV1_n
        go_wp2_with fail
        refine (spec_CoveredSpots_any _ _ P2 _ _ Q2 _ _ R2 _ _ T2 _ MP2.out MQ2.out MR2.out MT2.out (by omega) (by omega) (by omega) (by omega) CMP2 CMT2).mono ?_
        rintro e w406 ⟨V2A, V2c, he, ho, hq⟩
        rw [HV.out, HC2.out] at he
        rw [HV.out] at ho
        subst he
        have MV2_n := Lib.hid (Mem.of_own ho)
        have CMV2 := own_cap ho
        clear ho
        have ML_ := ML.out.below hq
        have MO_ := MO.out.below hq
        have MM_ := MM.out.below hq
        have MX1_ := MX1.out.below hq
        have MX2_ := MX2.out.below hq
        have MY2_ := MY2.out.below hq
        have MZ2_ := MZ2.out.below hq
        have MP2_ := MP2.out.below hq
        have MQ2_ := MQ2.out.below hq
        have MR2_ := MR2.out.below hq
        have MT2_ := MT2.out.below hq
        have MV1_ := MV1.out.below hq
        have BB_ := Below.next hq BB.out BB.out.size
        clear ML MO MM MX1 MX2 MY2 MZ2 MP2 MQ2 MR2 MT2 MV1 BB hq
        have ML := Lib.hid ML_
        have MO := Lib.hid MO_
        have MM := Lib.hid MM_
        have MX1 := Lib.hid MX1_
        have MX2 := Lib.hid MX2_
        have MY2 := Lib.hid MY2_
        have MZ2 := Lib.hid MZ2_
        have MP2 := Lib.hid MP2_
        have MQ2 := Lib.hid MQ2_
        have MR2 := Lib.hid MR2_
        have MT2 := Lib.hid MT2_
        have MV1 := Lib.hid MV1_
        have BB := Lib.hid BB_
        clear ML_ MO_ MM_ MX1_ MX2_ MY2_ MZ2_ MP2_ MQ2_ MR2_ MT2_ MV1_ BB_
        have MV2 := MV2_n
        clear MV2_n
        clear MQ2 MT2
        go_upto_region 26 with (fail)
        go_cut [348] from 317 to 348 (fun v wx => v = .bool false ∧ Below W.heap.size W wx ∧ Hid (Mem wx A' (spots L)) ∧ Hid (Mem wx B' (ints O)) ∧ Hid (Mem wx C' (ints M)) ∧ Hid (Mem wx X1A (ints X)) ∧ Hid (Mem wx X2A (ints X)) ∧ Hid (Mem wx Y2A (ints Y)) ∧ Hid (Mem wx Z2A (ints Z)) ∧ Hid (Mem wx A2 (spots P2)) ∧ Hid (Mem wx F2 (ints R2)) ∧ Hid (Mem wx V2A (spots V)))
        case first => as_aux_lemma =>
          have hcv : V.length ≤ 1048576 := by omega
          have e7 : ((V.length : Int) != ((P2.length : Int) - (Q2.length : Int))) = false := by
            rw [show (P2.length : Int) - (Q2.length : Int) = (V.length : Int) by omega]; simp
          clear hcl
          by_cases h0 : 0 < V.length
          · have HCO := Lib.hid (HCH2.out h0)
            clear HCH2
            go_wp2_with fail
            refine (qSpots_same _ _ _ _ V _ MV1.out MV2.out hcv).mono ?_
            rintro e w501 ⟨rfl, hq⟩
            have ML_ := ML.out.below hq
            have MO_ := MO.out.below hq
            have MM_ := MM.out.below hq
            have MX1_ := MX1.out.below hq
            have MX2_ := MX2.out.below hq
            have MY2_ := MY2.out.below hq
            have MZ2_ := MZ2.out.below hq
            have MP2_ := MP2.out.below hq
            have MR2_ := MR2.out.below hq
            have MV1_ := MV1.out.below hq
            have MV2_ := MV2.out.below hq
            have BB_ := Below.next hq BB.out BB.out.size
            clear ML MO MM MX1 MX2 MY2 MZ2 MP2 MR2 MV1 MV2 BB hq
            have ML := Lib.hid ML_
            have MO := Lib.hid MO_
            have MM := Lib.hid MM_
            have MX1 := Lib.hid MX1_
            have MX2 := Lib.hid MX2_
            have MY2 := Lib.hid MY2_
            have MZ2 := Lib.hid MZ2_
            have MP2 := Lib.hid MP2_
            have MR2 := Lib.hid MR2_
            have MV1 := Lib.hid MV1_
            have MV2 := Lib.hid MV2_
            have BB := Lib.hid BB_
            clear ML_ MO_ MM_ MX1_ MX2_ MY2_ MZ2_ MP2_ MR2_ MV1_ MV2_ BB_
            go_wp2_with fail
            refine (IsChart_any _ _ V _ MV1.out hcv CMV1).mono ?_
            rintro e w502 ⟨he, hq⟩
            rw [HCO.out] at he
            subst he
            have ML_ := ML.out.below hq
            have MO_ := MO.out.below hq
            have MM_ := MM.out.below hq
            have MX1_ := MX1.out.below hq
            have MX2_ := MX2.out.below hq
            have MY2_ := MY2.out.below hq
            have MZ2_ := MZ2.out.below hq
            have MP2_ := MP2.out.below hq
            have MR2_ := MR2.out.below hq
            have MV1_ := MV1.out.below hq
            have MV2_ := MV2.out.below hq
            have BB_ := Below.next hq BB.out BB.out.size
            clear ML MO MM MX1 MX2 MY2 MZ2 MP2 MR2 MV1 MV2 BB hq
            have ML := Lib.hid ML_
            have MO := Lib.hid MO_
            have MM := Lib.hid MM_
            have MX1 := Lib.hid MX1_
            have MX2 := Lib.hid MX2_
            have MY2 := Lib.hid MY2_
            have MZ2 := Lib.hid MZ2_
            have MP2 := Lib.hid MP2_
            have MR2 := Lib.hid MR2_
            have MV1 := Lib.hid MV1_
            have MV2 := Lib.hid MV2_
            have BB := Lib.hid BB_
            clear ML_ MO_ MM_ MX1_ MX2_ MY2_ MZ2_ MP2_ MR2_ MV1_ MV2_ BB_
            go_wp2_with fail
            go_meet
            exact ⟨rfl, BB.out, ML, MO, MM, MX1, MX2, MY2, MZ2, MP2, MR2, MV2⟩
          · skip
            clear HCH2
            go_wp2_with fail
            refine (qSpots_same _ _ _ _ V _ MV1.out MV2.out hcv).mono ?_
            rintro e w521 ⟨rfl, hq⟩
            have ML_ := ML.out.below hq
            have MO_ := MO.out.below hq
            have MM_ := MM.out.below hq
            have MX1_ := MX1.out.below hq
            have MX2_ := MX2.out.below hq
            have MY2_ := MY2.out.below hq
            have MZ2_ := MZ2.out.below hq
            have MP2_ := MP2.out.below hq
            have MR2_ := MR2.out.below hq
            have MV1_ := MV1.out.below hq
            have MV2_ := MV2.out.below hq
            have BB_ := Below.next hq BB.out BB.out.size
            clear ML MO MM MX1 MX2 MY2 MZ2 MP2 MR2 MV1 MV2 BB hq
            have ML := Lib.hid ML_
            have MO := Lib.hid MO_
            have MM := Lib.hid MM_
            have MX1 := Lib.hid MX1_
            have MX2 := Lib.hid MX2_
            have MY2 := Lib.hid MY2_
            have MZ2 := Lib.hid MZ2_
            have MP2 := Lib.hid MP2_
            have MR2 := Lib.hid MR2_
            have MV1 := Lib.hid MV1_
            have MV2 := Lib.hid MV2_
            have BB := Lib.hid BB_
            clear ML_ MO_ MM_ MX1_ MX2_ MY2_ MZ2_ MP2_ MR2_ MV1_ MV2_ BB_
            go_wp2_with fail
            go_meet
            exact ⟨rfl, BB.out, ML, MO, MM, MX1, MX2, MY2, MZ2, MP2, MR2, MV2⟩
        case rest => as_aux_lemma =>
          obtain ⟨rfl, hbc, ML, MO, MM, MX1, MX2, MY2, MZ2, MP2, MR2, MV2⟩ := hcut
          have BB := Lib.hid hbc
          clear hbc MV1 MQ2 MT2 HCH2 HA2 HI2 HC2 HCS HS2 HM2 HV HK2 HN2
          go_wp2_with fail
          rename World => wB
          go_loopw [351] (fun iv wr => ∃ k : Nat, k ≤ R2.length ∧ iv = .int .i64 k ∧ Below wB.heap.size wB wr) (fun iv _ => R2.length - (intOf iv).toNat)
          case atStart => exact ⟨0, by omega, rfl, Below.refl _ _⟩
          case round =>
            obtain ⟨k, hk, rfl, hb⟩ := hrel
            have HB := Lib.hid hb
            have zz := hb.size
            clear hb
            by_cases hkl : k < R2.length
            · obtain ⟨y, hy⟩ := some_of_lt hkl
              obtain ⟨y, rfl, hyl⟩ : ∃ z : Nat, y = (z : Int) ∧ z < P2.length := by
                have := rise_mem (x := y) HRI.out (List.mem_of_getElem? hy)
                exact nat_of (by omega) (by omega)
              obtain ⟨u, hu⟩ := some_of_lt hyl
              have HIN := Lib.hid (HND2.out y u (List.mem_of_getElem? hy) hu)
              obtain ⟨b0, o0, rfl, e1⟩ := (MR2.out.below HB.out).int hy
              obtain ⟨b1, o1, rfl, e2, e3⟩ := MP2.out.spot hu
              have E2 := Lib.hid e2
              have E3 := Lib.hid e3
              clear hy hu e2 e3
              go_wp2_with fail
              go_loopw [50, 357] (fun fv iv w5 => ∃ j : Nat, j ≤ V.length ∧ iv = .int .i64 j ∧ fv = .bool (has (V.take j) u) ∧ Below wr.heap.size wr w5) (fun _ iv _ => V.length - (intOf iv).toNat)
              case atStart => exact ⟨0, by omega, rfl, rfl, Below.refl _ _⟩
              case round =>
                obtain ⟨j, hj, rfl, rfl, hb5⟩ := hrel
                have HB5 := Lib.hid (HB.out.trans (hb5.mono zz))
                have HB6 := Lib.hid hb5
                have z5 := hb5.size
                clear hb5
                by_cases hjl : j < V.length
                · obtain ⟨s, hs⟩ := some_of_lt hjl
                  obtain ⟨b2, o2, rfl, f1, f2⟩ := (MV2.out.below HB5.out).spot hs
                  have HS := Lib.hid hs
                  have q1 := keep1 HB5.out E2.out
                  have q2 := keep1 HB5.out E3.out
                  have lb1 := World.block_lt_of_cell? _ _ q1
                  clear hs
                  cases hf : has (V.take j) u
                  · have HF := Lib.hid hf
                    clear hf
                    by_cases hx : s = u
                    · subst hx
                      go_wp2_with fail
                      go_quiet (fail)
                      go_wp2_with fail
                      go_roundw
                      case rel => exact ⟨j + 1, by omega, by go_num, by rw [has_take HS.out (Nat.lt_succ_self _)], by (repeat (first | exact Below.refl _ _ | assumption | (refine Below.alloc ?_ (by first | omega | (simp; done) | (simp; omega)) _) | (refine Below.setCell ?_ (by first | omega | (simp; done) | (simp; omega)) _) | (refine Below.drew ?_) | (refine Below.drewN ?_ _) | (refine Below.next (by assumption) ?_ (by first | omega | (simp; done) | (simp; omega)))))⟩
                      case measure => simp [intOf]; omega
                    · have HX2 := Lib.hid hx
                      rcases sp_ne (fun e => hx e.symm) with e4 | ⟨e4, e5⟩
                      all_goals
                        clear hx
                        go_wp2_with fail
                        go_quiet (fail)
                        go_wp2_with fail
                        go_roundw
                        case rel => exact ⟨j + 1, by omega, by go_num, by rw [take_no HF.out HS.out HX2.out], by (repeat (first | exact Below.refl _ _ | assumption | (refine Below.alloc ?_ (by first | omega | (simp; done) | (simp; omega)) _) | (refine Below.setCell ?_ (by first | omega | (simp; done) | (simp; omega)) _) | (refine Below.drew ?_) | (refine Below.drewN ?_ _) | (refine Below.next (by assumption) ?_ (by first | omega | (simp; done) | (simp; omega)))))⟩
                        case measure => simp [intOf]; omega
                  · have HF := Lib.hid hf
                    clear hf
                    go_wp2_with fail
                    go_quiet (fail)
                    go_wp2_with fail
                    go_roundw
                    case rel => exact ⟨j + 1, by omega, by go_num, by rw [take_more HF.out], by (repeat (first | exact Below.refl _ _ | assumption | (refine Below.alloc ?_ (by first | omega | (simp; done) | (simp; omega)) _) | (refine Below.setCell ?_ (by first | omega | (simp; done) | (simp; omega)) _) | (refine Below.drew ?_) | (refine Below.drewN ?_ _) | (refine Below.next (by assumption) ?_ (by first | omega | (simp; done) | (simp; omega)))))⟩
                    case measure => simp [intOf]; omega
                · have hft : has (V.take j) u = true := by
                    rw [List.take_of_length_le (by omega)]
                    exact has_iff.2 HIN.out
                  rw [hft]
                  clear hft
                  go_wp2_with fail
                  go_roundw
                  case rel => exact ⟨k + 1, by omega, by go_num, HB5.out⟩
                  case measure => simp [intOf]; omega
            · have BB2 := Lib.hid (BB.out.trans (HB.out.mono BB.out.size))
              go_wp2_with fail
              go_meet
              exact ⟨BB2.out, Lib.hid (ML.out.below HB.out), Lib.hid (MO.out.below HB.out), Lib.hid (MM.out.below HB.out), Lib.hid (MX1.out.below HB.out), Lib.hid (MX2.out.below HB.out), Lib.hid (MY2.out.below HB.out), Lib.hid (MZ2.out.below HB.out)⟩
      case rest => as_aux_lemma =>
        obtain ⟨hbc, ML, MO, MM, MX1, MX2, MY2, MZ2⟩ := hcut
        have BB := Lib.hid hbc
        clear hbc MP2 MQ2 MR2 MT2
        clear HA2 HI2 HC2 HCS
        cases one
        · go_wp2_with fail
          go_ret
          exact ⟨rfl, BB.out⟩
        have HY2 := Lib.hid (show Y = opens O M by rw [← HY.out, opV, HONE.out]; rfl)
        have HZ2 := Lib.hid (show Z = spares L.length O M by rw [← HZ.out, spV, HONE.out]; rfl)
        go_wp2_with fail
        rename World => wC
        go_loopw [378] (fun iv wr => ∃ k : Nat, k ≤ L.length ∧ iv = .int .i64 k ∧ wr = wC) (fun iv _ => L.length - (intOf iv).toNat)
        case atStart => exact ⟨0, by omega, rfl, rfl⟩
        case round =>
          obtain ⟨k, hk, rfl, rfl⟩ := hrel
          by_cases hkl : k < L.length
          · have HDO := Lib.hid (show decide ((k : Int) ∈ Y) = (decide ((k : Int) ∈ O) && decide ((k : Int) ∈ M)) by
              have h := has_opens O M (k : Int)
              rw [← HY2.out] at h
              simpa [has] using h)
            have HDS := Lib.hid (show decide ((k : Int) ∈ Z) = (!decide ((k : Int) ∈ O) && !decide ((k : Int) ∈ M)) by
              have h := has_spares (a := O) (n := M) hkl
              rw [← HZ2.out] at h
              simpa [has] using h)
            cases ho : decide ((k : Int) ∈ O) <;> cases hn : decide ((k : Int) ∈ M)
            all_goals
              have HO := Lib.hid ho
              have HN := Lib.hid hn
              rw [ho, hn] at HDO HDS
              simp only [Bool.and_true, Bool.and_false, Bool.not_true, Bool.not_false] at HDO HDS
              clear ho hn
              go_wp2_with fail
              refine (qHas_any _ _ O _ _ MO.out (by omega)).mono ?_
              rintro e _ ⟨he, rfl⟩
              rw [HO.out] at he
              subst he
              go_wp2_with fail
              refine (qHas_any _ _ M _ _ MM.out (by omega)).mono ?_
              rintro e _ ⟨he, rfl⟩
              rw [HN.out] at he
              subst he
              go_wp2_with fail
              refine (qHas_any _ _ Y _ _ MY2.out hop).mono ?_
              rintro e _ ⟨he, rfl⟩
              rw [HDO.out] at he
              subst he
              go_wp2_with fail
              refine (qHas_any _ _ Z _ _ MZ2.out hsp).mono ?_
              rintro e _ ⟨he, rfl⟩
              rw [HDS.out] at he
              subst he
              go_wp2_with fail
              go_roundw
              case rel => exact ⟨k + 1, by omega, by go_num, by first | trivial | rfl⟩
              case measure => simp [intOf]; omega
          · cases lk
            · go_wp2_with fail
              go_ret
              exact ⟨rfl, BB.out⟩
            have hA : lcA L O M = true := by
              have h := HLB.out
              rw [lkB, HONE.out] at h
              exact h
            obtain ⟨c1, c2, c3⟩ := lc_cover HONE.out hA
            have HXE := Lib.hid (show X = lcL L O M by rw [← HX.out, lkV, HONE.out]; rfl)
            have HSE := Lib.hid (show sm = lcN L O M by rw [← HLN.out, lkN, HONE.out]; rfl)
            rw [← HXE.out] at c1 c2 c3
            rw [← HSE.out] at c2
            rw [← HY2.out] at c3
            have HIC := Lib.hid (show icV L O M X = true by rw [icV, HONE.out, c1]; rfl)
            have HCC := Lib.hid (show csOk L O M X = true by rw [csOk, HONE.out, c1]; rfl)
            have HSV := Lib.hid c2
            have e9 : ((X.length : Int) == (Y.length : Int)) = true := by rw [c3]; simp
            clear c1 c2 c3 hA HLK
            go_wp2_with fail
            refine (impl_IsCoverOf_any _ _ L _ _ O _ _ M _ _ X _ ML.out MO.out MM.out MX1.out (by omega) (by omega) (by omega) hlk CML CMX1).mono ?_
            rintro e w601 ⟨he, hq⟩
            rw [HIC.out, HONE.out] at he
            subst he
            have BB1 := Lib.hid (Below.next hq BB.out BB.out.size)
            go_wp2_with fail
            refine (impl_CoverSum_any _ _ L _ _ O _ _ M _ _ X _ (ML.out.below hq) (MO.out.below hq) (MM.out.below hq) (MX1.out.below hq) (by omega) (by omega) (by omega) hlk CML CMX1).mono ?_
            rintro e w602 ⟨he, hq2⟩
            rw [HSV.out, HCC.out] at he
            subst he
            have BB2 := Lib.hid (Below.next hq2 BB1.out BB1.out.size)
            go_wp2_with fail
            go_ret
            exact ⟨rfl, BB2.out⟩

end Go.Proofs.Ythppancpecjegaa
