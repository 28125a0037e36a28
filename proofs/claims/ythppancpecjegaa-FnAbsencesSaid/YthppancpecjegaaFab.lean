/-
  The walk of the law of absences.
-/
import Derived.Test.YthppancpecjegaaFaq
import Derived.Test.YthppancpecjegaaFrame
import Derived.Deep.DeepCutAuto
namespace Go.Proofs.Ythppancpecjegaa
open Go.RowKit
open Go.Sort (grow)

theorem code_of {w : World} {A : Option Addr} {L : List Int} {c : Nat} (hm : Mem w A (L.flatMap fun n => [Value.int .u8 n])) (ho : ∀ x ∈ L, okByte x) (h1 : L.length ≤ c) (h2 : c ≤ maxLen) : code w A L :=
  ⟨hm, fun x hx => by have := ho x hx; unfold okByte at this; omega, by unfold maxLen at h2; omega⟩
set_option maxRecDepth 100000 in
set_option maxHeartbeats 4000000 in
theorem FnAbsences_walk (A0 : Option Addr) (c0 : Nat) (L0 : List Int) (A1 : Option Addr) (c1 : Nat) (L1 : List Int) (W : World) (m0 : Mem W A0 (L0.flatMap fun n => [Value.int .u8 n])) (k0 : ∀ x ∈ L0, okByte x) (l0 : L0.length ≤ c0) (n0 : c0 ≤ maxLen)
    (m1 : Mem W A1 (L1.flatMap fun n => [Value.int .u8 n])) (k1 : ∀ x ∈ L1, okByte x) (l1 : L1.length ≤ c1) (n1 : c1 ≤ maxLen) :
    Calls Try.prog 5 #[.slice A0 L0.length c0, .slice A1 L1.length c1] W fun e W' => e = .returned (.bool true) ∧ Below W.heap.size W W' := by
  have K0 := Lib.hid (code_of m0 k0 l0 n0)
  have K1 := Lib.hid (code_of m1 k1 l1 n1)
  unfold maxLen at n0 n1
  have q0 : L0.length ≤ 9223372036854775807 := by omega
  have BB := Lib.hid (Below.refl W.heap.size W)
  clear m0 k0 m1 k1
  clear l0 n0 l1 n1
  go_enter Try.func5, Try.ntmps5
  by_cases hbig : 1048576 < wrap64 ((L0.length : Int) + (L1.length : Int))
  · go_wp2
    go_ret
    exact ⟨rfl, Below.refl _ _⟩
  go_wp2_with fail
  refine (drawWorstAbsence_any _ _ _ _ K0.out).mono ?_
  rintro e w1 ⟨A', c', L, C', f', M, rfl, h1, h2, hq⟩
  have ML_n := Lib.hid (Mem.of_own h1.2.1)
  have CML := own_cap h1.2.1
  have BML : L.length ≤ 13 := h1.1
  have MM_n := Lib.hid (Mem.of_own h2.2.1)
  have CMM := own_cap h2.2.1
  have BMM : M.length ≤ 14 := h2.1
  clear h1 h2
  have K0_ := K0.out.below hq
  have K1_ := K1.out.below hq
  have BB_ := Below.next hq BB.out BB.out.size
  clear K0 K1 BB hq
  have K0 := Lib.hid K0_
  have K1 := Lib.hid K1_
  have BB := Lib.hid BB_
  clear K0_ K1_ BB_
  have ML := ML_n
  clear ML_n
  have MM := MM_n
  clear MM_n
  clear K0
  go_wp2_with fail
  refine (impl_WorstAbsence_any _ _ L _ _ M _ ML.out MM.out (by omega) (by omega) CML).mono ?_
  rintro e w2 ⟨rfl, hq⟩
  have K1_ := K1.out.below hq
  have ML_ := ML.out.below hq
  have MM_ := MM.out.below hq
  have BB_ := Below.next hq BB.out BB.out.size
  clear K1 ML MM BB hq
  have K1 := Lib.hid K1_
  have ML := Lib.hid ML_
  have MM := Lib.hid MM_
  have BB := Lib.hid BB_
  clear K1_ ML_ MM_ BB_
  go_wp2_with fail
  refine (spec_WorstAbsence_any _ _ L _ _ M _ ML.out MM.out (by omega) (by omega) CML).mono ?_
  rintro e w3 ⟨rfl, hq⟩
  have K1_ := K1.out.below hq
  have ML_ := ML.out.below hq
  have MM_ := MM.out.below hq
  have BB_ := Below.next hq BB.out BB.out.size
  clear K1 ML MM BB hq
  have K1 := Lib.hid K1_
  have ML := Lib.hid ML_
  have MM := Lib.hid MM_
  have BB := Lib.hid BB_
  clear K1_ ML_ MM_ BB_
  go_wp2_with fail
  refine (drawCoverSum_any _ _ _ _ K1.out).mono ?_
  rintro e w4 ⟨A2, c2, P2, D2, d2, Q2, F2, f2, R2, H2, h2, T2, rfl, h1, h2, h3, h4, hq⟩
  have MP2_n := Lib.hid (Mem.of_own h1.2.1)
  have CMP2 := own_cap h1.2.1
  have BMP2 : P2.length ≤ 13 := h1.1
  have MQ2_n := Lib.hid (Mem.of_own h2.2.1)
  have CMQ2 := own_cap h2.2.1
  have BMQ2 : Q2.length ≤ 14 := h2.1
  have MR2_n := Lib.hid (Mem.of_own h3.2.1)
  have CMR2 := own_cap h3.2.1
  have BMR2 : R2.length ≤ 14 := h3.1
  have MT2_n := Lib.hid (Mem.of_own h4.2.1)
  have CMT2 := own_cap h4.2.1
  have BMT2 : T2.length ≤ 15 := h4.1
  clear h1 h2 h3 h4
  have K1_ := K1.out.below hq
  have ML_ := ML.out.below hq
  have MM_ := MM.out.below hq
  have BB_ := Below.next hq BB.out BB.out.size
  clear K1 ML MM BB hq
  have K1 := Lib.hid K1_
  have ML := Lib.hid ML_
  have MM := Lib.hid MM_
  have BB := Lib.hid BB_
  clear K1_ ML_ MM_ BB_
  have MP2 := MP2_n
  clear MP2_n
  have MQ2 := MQ2_n
  clear MQ2_n
  have MR2 := MR2_n
  clear MR2_n
  have MT2 := MT2_n
  clear MT2_n
  go_wp2_with fail
  refine (impl_CoverSum_any _ _ P2 _ _ Q2 _ _ R2 _ _ T2 _ MP2.out MQ2.out MR2.out MT2.out (by omega) (by omega) (by omega) (by omega) CMP2 CMT2).mono ?_
  rintro e w5 ⟨rfl, hq⟩
  have K1_ := K1.out.below hq
  have ML_ := ML.out.below hq
  have MM_ := MM.out.below hq
  have MP2_ := MP2.out.below hq
  have MQ2_ := MQ2.out.below hq
  have MR2_ := MR2.out.below hq
  have MT2_ := MT2.out.below hq
  have BB_ := Below.next hq BB.out BB.out.size
  clear K1 ML MM MP2 MQ2 MR2 MT2 BB hq
  have K1 := Lib.hid K1_
  have ML := Lib.hid ML_
  have MM := Lib.hid MM_
  have MP2 := Lib.hid MP2_
  have MQ2 := Lib.hid MQ2_
  have MR2 := Lib.hid MR2_
  have MT2 := Lib.hid MT2_
  have BB := Lib.hid BB_
  clear K1_ ML_ MM_ MP2_ MQ2_ MR2_ MT2_ BB_
  go_wp2_with fail
  refine (spec_CoverSum_any _ _ P2 _ _ Q2 _ _ R2 _ _ T2 _ MP2.out MQ2.out MR2.out MT2.out (by omega) (by omega) (by omega) (by omega) CMP2 CMT2).mono ?_
  rintro e w6 ⟨rfl, hq⟩
  have K1_ := K1.out.below hq
  have ML_ := ML.out.below hq
  have MM_ := MM.out.below hq
  have MP2_ := MP2.out.below hq
  have MQ2_ := MQ2.out.below hq
  have MR2_ := MR2.out.below hq
  have MT2_ := MT2.out.below hq
  have BB_ := Below.next hq BB.out BB.out.size
  clear K1 ML MM MP2 MQ2 MR2 MT2 BB hq
  have K1 := Lib.hid K1_
  have ML := Lib.hid ML_
  have MM := Lib.hid MM_
  have MP2 := Lib.hid MP2_
  have MQ2 := Lib.hid MQ2_
  have MR2 := Lib.hid MR2_
  have MT2 := Lib.hid MT2_
  have BB := Lib.hid BB_
  clear K1_ ML_ MM_ MP2_ MQ2_ MR2_ MT2_ BB_
  go_wp2_with fail
  refine (drawCoveredSpots_any _ _ _ _ K1.out).mono ?_
  rintro e w7 ⟨A3, c3, P3, D3, d3, Q3, F3, f3, R3, H3, h3, T3, rfl, h1, h2, h3, h4, hq⟩
  have MP3_n := Lib.hid (Mem.of_own h1.2.1)
  have CMP3 := own_cap h1.2.1
  have BMP3 : P3.length ≤ 13 := h1.1
  have MQ3_n := Lib.hid (Mem.of_own h2.2.1)
  have CMQ3 := own_cap h2.2.1
  have BMQ3 : Q3.length ≤ 14 := h2.1
  have MR3_n := Lib.hid (Mem.of_own h3.2.1)
  have CMR3 := own_cap h3.2.1
  have BMR3 : R3.length ≤ 14 := h3.1
  have MT3_n := Lib.hid (Mem.of_own h4.2.1)
  have CMT3 := own_cap h4.2.1
  have BMT3 : T3.length ≤ 15 := h4.1
  clear h1 h2 h3 h4
  have K1_ := K1.out.below hq
  have ML_ := ML.out.below hq
  have MM_ := MM.out.below hq
  have MP2_ := MP2.out.below hq
  have MQ2_ := MQ2.out.below hq
  have MR2_ := MR2.out.below hq
  have MT2_ := MT2.out.below hq
  have BB_ := Below.next hq BB.out BB.out.size
  clear K1 ML MM MP2 MQ2 MR2 MT2 BB hq
  have K1 := Lib.hid K1_
  have ML := Lib.hid ML_
  have MM := Lib.hid MM_
  have MP2 := Lib.hid MP2_
  have MQ2 := Lib.hid MQ2_
  have MR2 := Lib.hid MR2_
  have MT2 := Lib.hid MT2_
  have BB := Lib.hid BB_
  clear K1_ ML_ MM_ MP2_ MQ2_ MR2_ MT2_ BB_
  have MP3 := MP3_n
  clear MP3_n
  have MQ3 := MQ3_n
  clear MQ3_n
  have MR3 := MR3_n
  clear MR3_n
  have MT3 := MT3_n
  clear MT3_n
  go_wp2_with fail
  refine (impl_CoveredSpots_any _ _ P3 _ _ Q3 _ _ R3 _ _ T3 _ MP3.out MQ3.out MR3.out MT3.out (by omega) (by omega) (by omega) (by omega) CMP3 CMT3).mono ?_
  rintro e w8 ⟨S0A, S0c, rfl, ho, hq⟩
  have MS0_n := Lib.hid (Mem.of_own ho)
  clear ho
  have K1_ := K1.out.below hq
  have ML_ := ML.out.below hq
  have MM_ := MM.out.below hq
  have MP2_ := MP2.out.below hq
  have MQ2_ := MQ2.out.below hq
  have MR2_ := MR2.out.below hq
  have MT2_ := MT2.out.below hq
  have MP3_ := MP3.out.below hq
  have MQ3_ := MQ3.out.below hq
  have MR3_ := MR3.out.below hq
  have MT3_ := MT3.out.below hq
  have BB_ := Below.next hq BB.out BB.out.size
  clear K1 ML MM MP2 MQ2 MR2 MT2 MP3 MQ3 MR3 MT3 BB hq
  have K1 := Lib.hid K1_
  have ML := Lib.hid ML_
  have MM := Lib.hid MM_
  have MP2 := Lib.hid MP2_
  have MQ2 := Lib.hid MQ2_
  have MR2 := Lib.hid MR2_
  have MT2 := Lib.hid MT2_
  have MP3 := Lib.hid MP3_
  have MQ3 := Lib.hid MQ3_
  have MR3 := Lib.hid MR3_
  have MT3 := Lib.hid MT3_
  have BB := Lib.hid BB_
  clear K1_ ML_ MM_ MP2_ MQ2_ MR2_ MT2_ MP3_ MQ3_ MR3_ MT3_ BB_
  have MS0 := MS0_n
  clear MS0_n
  go_wp2_with fail
  refine (spec_CoveredSpots_any _ _ P3 _ _ Q3 _ _ R3 _ _ T3 _ MP3.out MQ3.out MR3.out MT3.out (by omega) (by omega) (by omega) (by omega) CMP3 CMT3).mono ?_
  rintro e w9 ⟨S1A, S1c, rfl, ho, hq⟩
  have MS1_n := Lib.hid (Mem.of_own ho)
  clear ho
  have K1_ := K1.out.below hq
  have ML_ := ML.out.below hq
  have MM_ := MM.out.below hq
  have MP2_ := MP2.out.below hq
  have MQ2_ := MQ2.out.below hq
  have MR2_ := MR2.out.below hq
  have MT2_ := MT2.out.below hq
  have MP3_ := MP3.out.below hq
  have MQ3_ := MQ3.out.below hq
  have MR3_ := MR3.out.below hq
  have MT3_ := MT3.out.below hq
  have MS0_ := MS0.out.below hq
  have BB_ := Below.next hq BB.out BB.out.size
  clear K1 ML MM MP2 MQ2 MR2 MT2 MP3 MQ3 MR3 MT3 MS0 BB hq
  have K1 := Lib.hid K1_
  have ML := Lib.hid ML_
  have MM := Lib.hid MM_
  have MP2 := Lib.hid MP2_
  have MQ2 := Lib.hid MQ2_
  have MR2 := Lib.hid MR2_
  have MT2 := Lib.hid MT2_
  have MP3 := Lib.hid MP3_
  have MQ3 := Lib.hid MQ3_
  have MR3 := Lib.hid MR3_
  have MT3 := Lib.hid MT3_
  have MS0 := Lib.hid MS0_
  have BB := Lib.hid BB_
  clear K1_ ML_ MM_ MP2_ MQ2_ MR2_ MT2_ MP3_ MQ3_ MR3_ MT3_ MS0_ BB_
  have MS1 := MS1_n
  clear MS1_n
  go_wp2_with fail
  refine (drawLackingPerformers_any _ _ _ _ K1.out).mono ?_
  rintro e w10 ⟨A4, c4, P4, D4, d4, Q4, F4, f4, R4, rfl, h1, h2, h3, hq⟩
  have MP4_n := Lib.hid (Mem.of_own h1.2.1)
  have CMP4 := own_cap h1.2.1
  have BMP4 : P4.length ≤ 13 := h1.1
  have MQ4_n := Lib.hid (Mem.of_own h2.2.1)
  have CMQ4 := own_cap h2.2.1
  have BMQ4 : Q4.length ≤ 14 := h2.1
  have MR4_n := Lib.hid (Mem.of_own h3.2.1)
  have CMR4 := own_cap h3.2.1
  have BMR4 : R4.length ≤ 14 := h3.1
  clear h1 h2 h3
  have K1_ := K1.out.below hq
  have ML_ := ML.out.below hq
  have MM_ := MM.out.below hq
  have MP2_ := MP2.out.below hq
  have MQ2_ := MQ2.out.below hq
  have MR2_ := MR2.out.below hq
  have MT2_ := MT2.out.below hq
  have MP3_ := MP3.out.below hq
  have MQ3_ := MQ3.out.below hq
  have MR3_ := MR3.out.below hq
  have MT3_ := MT3.out.below hq
  have MS0_ := MS0.out.below hq
  have MS1_ := MS1.out.below hq
  have BB_ := Below.next hq BB.out BB.out.size
  clear K1 ML MM MP2 MQ2 MR2 MT2 MP3 MQ3 MR3 MT3 MS0 MS1 BB hq
  have K1 := Lib.hid K1_
  have ML := Lib.hid ML_
  have MM := Lib.hid MM_
  have MP2 := Lib.hid MP2_
  have MQ2 := Lib.hid MQ2_
  have MR2 := Lib.hid MR2_
  have MT2 := Lib.hid MT2_
  have MP3 := Lib.hid MP3_
  have MQ3 := Lib.hid MQ3_
  have MR3 := Lib.hid MR3_
  have MT3 := Lib.hid MT3_
  have MS0 := Lib.hid MS0_
  have MS1 := Lib.hid MS1_
  have BB := Lib.hid BB_
  clear K1_ ML_ MM_ MP2_ MQ2_ MR2_ MT2_ MP3_ MQ3_ MR3_ MT3_ MS0_ MS1_ BB_
  have MP4 := MP4_n
  clear MP4_n
  have MQ4 := MQ4_n
  clear MQ4_n
  have MR4 := MR4_n
  clear MR4_n
  clear K1
  go_wp2_with fail
  refine (impl_LackingPerformers_any _ _ P4 _ _ Q4 _ _ R4 _ MP4.out MQ4.out MR4.out (by omega) (by omega) (by omega) CMP4).mono ?_
  rintro e w11 ⟨rfl, hq⟩
  have ML_ := ML.out.below hq
  have MM_ := MM.out.below hq
  have MP2_ := MP2.out.below hq
  have MQ2_ := MQ2.out.below hq
  have MR2_ := MR2.out.below hq
  have MT2_ := MT2.out.below hq
  have MP3_ := MP3.out.below hq
  have MQ3_ := MQ3.out.below hq
  have MR3_ := MR3.out.below hq
  have MT3_ := MT3.out.below hq
  have MS0_ := MS0.out.below hq
  have MS1_ := MS1.out.below hq
  have MP4_ := MP4.out.below hq
  have MQ4_ := MQ4.out.below hq
  have MR4_ := MR4.out.below hq
  have BB_ := Below.next hq BB.out BB.out.size
  clear ML MM MP2 MQ2 MR2 MT2 MP3 MQ3 MR3 MT3 MS0 MS1 MP4 MQ4 MR4 BB hq
  have ML := Lib.hid ML_
  have MM := Lib.hid MM_
  have MP2 := Lib.hid MP2_
  have MQ2 := Lib.hid MQ2_
  have MR2 := Lib.hid MR2_
  have MT2 := Lib.hid MT2_
  have MP3 := Lib.hid MP3_
  have MQ3 := Lib.hid MQ3_
  have MR3 := Lib.hid MR3_
  have MT3 := Lib.hid MT3_
  have MS0 := Lib.hid MS0_
  have MS1 := Lib.hid MS1_
  have MP4 := Lib.hid MP4_
  have MQ4 := Lib.hid MQ4_
  have MR4 := Lib.hid MR4_
  have BB := Lib.hid BB_
  clear ML_ MM_ MP2_ MQ2_ MR2_ MT2_ MP3_ MQ3_ MR3_ MT3_ MS0_ MS1_ MP4_ MQ4_ MR4_ BB_
  go_wp2_with fail
  refine (spec_LackingPerformers_any _ _ P4 _ _ Q4 _ _ R4 _ MP4.out MQ4.out MR4.out (by omega) (by omega) (by omega) CMP4).mono ?_
  rintro e w12 ⟨rfl, hq⟩
  have ML_ := ML.out.below hq
  have MM_ := MM.out.below hq
  have MP2_ := MP2.out.below hq
  have MQ2_ := MQ2.out.below hq
  have MR2_ := MR2.out.below hq
  have MT2_ := MT2.out.below hq
  have MP3_ := MP3.out.below hq
  have MQ3_ := MQ3.out.below hq
  have MR3_ := MR3.out.below hq
  have MT3_ := MT3.out.below hq
  have MS0_ := MS0.out.below hq
  have MS1_ := MS1.out.below hq
  have MP4_ := MP4.out.below hq
  have MQ4_ := MQ4.out.below hq
  have MR4_ := MR4.out.below hq
  have BB_ := Below.next hq BB.out BB.out.size
  clear ML MM MP2 MQ2 MR2 MT2 MP3 MQ3 MR3 MT3 MS0 MS1 MP4 MQ4 MR4 BB hq
  have ML := Lib.hid ML_
  have MM := Lib.hid MM_
  have MP2 := Lib.hid MP2_
  have MQ2 := Lib.hid MQ2_
  have MR2 := Lib.hid MR2_
  have MT2 := Lib.hid MT2_
  have MP3 := Lib.hid MP3_
  have MQ3 := Lib.hid MQ3_
  have MR3 := Lib.hid MR3_
  have MT3 := Lib.hid MT3_
  have MS0 := Lib.hid MS0_
  have MS1 := Lib.hid MS1_
  have MP4 := Lib.hid MP4_
  have MQ4 := Lib.hid MQ4_
  have MR4 := Lib.hid MR4_
  have BB := Lib.hid BB_
  clear ML_ MM_ MP2_ MQ2_ MR2_ MT2_ MP3_ MQ3_ MR3_ MT3_ MS0_ MS1_ MP4_ MQ4_ MR4_ BB_
  have hcd : (cdV P3 Q3 R3 T3).length ≤ 1048576 := Nat.le_trans (cdV_le P3 Q3 R3 T3) (by omega)
  go_wp2_with fail
  refine (qSpots_same _ _ _ _ (cdV P3 Q3 R3 T3) _ MS0.out MS1.out hcd).mono ?_
  rintro e w13 ⟨rfl, hq⟩
  have ML_ := ML.out.below hq
  have MM_ := MM.out.below hq
  have MP2_ := MP2.out.below hq
  have MQ2_ := MQ2.out.below hq
  have MR2_ := MR2.out.below hq
  have MT2_ := MT2.out.below hq
  have MP3_ := MP3.out.below hq
  have MQ3_ := MQ3.out.below hq
  have MR3_ := MR3.out.below hq
  have MT3_ := MT3.out.below hq
  have MS0_ := MS0.out.below hq
  have MS1_ := MS1.out.below hq
  have MP4_ := MP4.out.below hq
  have MQ4_ := MQ4.out.below hq
  have MR4_ := MR4.out.below hq
  have BB_ := Below.next hq BB.out BB.out.size
  clear ML MM MP2 MQ2 MR2 MT2 MP3 MQ3 MR3 MT3 MS0 MS1 MP4 MQ4 MR4 BB hq
  have ML := Lib.hid ML_
  have MM := Lib.hid MM_
  have MP2 := Lib.hid MP2_
  have MQ2 := Lib.hid MQ2_
  have MR2 := Lib.hid MR2_
  have MT2 := Lib.hid MT2_
  have MP3 := Lib.hid MP3_
  have MQ3 := Lib.hid MQ3_
  have MR3 := Lib.hid MR3_
  have MT3 := Lib.hid MT3_
  have MS0 := Lib.hid MS0_
  have MS1 := Lib.hid MS1_
  have MP4 := Lib.hid MP4_
  have MQ4 := Lib.hid MQ4_
  have MR4 := Lib.hid MR4_
  have BB := Lib.hid BB_
  clear ML_ MM_ MP2_ MQ2_ MR2_ MT2_ MP3_ MQ3_ MR3_ MT3_ MS0_ MS1_ MP4_ MQ4_ MR4_ BB_
  clear MP3 MQ3 MR3 MT3 MS0 MS1 MP4 MQ4 MR4
  generalize hone : csOk P2 Q2 R2 T2 = one
  generalize hsum : csV P2 Q2 R2 T2 = sm
  have HONE := Lib.hid hone
  have HSUM := Lib.hid hsum
  clear hone hsum
  go_upto_if 185 with (fail)
  go_cut [] from 186 to 232 (fun wx => Below W.heap.size W wx ∧ Hid (Mem wx A' (spots L)) ∧ Hid (Mem wx C' (ints M)))

  case first => as_aux_lemma =>
    cases one
    · go_wp2
      go_meet
      exact ⟨BB.out, ML, MM⟩
    have hco := csOk_iff.1 HONE.out
    have HAB := Lib.hid hco.1
    have HCV := Lib.hid hco.2
    have HLE := Lib.hid (covOk_iff.1 hco.2).2
    have HGS := Lib.hid (ch_all (abOk_iff.1 hco.1).1)
    have HSV := Lib.hid (show csV P2 Q2 R2 T2 = cTo P2 T2 (opens Q2 R2) (opens Q2 R2).length by simp [csV, HONE.out])
    clear hco
    go_wp2_with fail
    refine (spec_OpenSpots_any _ _ P2 _ _ Q2 _ _ R2 _ MP2.out MQ2.out MR2.out (by omega) (by omega) (by omega) CMP2).mono ?_
    rintro e wO ⟨OA, Oc, rfl, ho, hq⟩
    rw [show opV P2 Q2 R2 = opens Q2 R2 by rw [opV, HAB.out]; rfl, ← HLE.out] at ho ⊢
    rw [HAB.out]
    have MO_n := Lib.hid (Mem.of_own ho)
    clear ho MQ2 MR2
    have ML_ := ML.out.below hq
    have MM_ := MM.out.below hq
    have MP2_ := MP2.out.below hq
    have MT2_ := MT2.out.below hq
    have BB_ := Below.next hq BB.out BB.out.size
    clear ML MM MP2 MT2 BB hq
    have ML := Lib.hid ML_
    have MM := Lib.hid MM_
    have MP2 := Lib.hid MP2_
    have MT2 := Lib.hid MT2_
    have BB := Lib.hid BB_
    clear ML_ MM_ MP2_ MT2_ BB_
    have MO := MO_n
    clear MO_n
    go_wp2_with fail
    go_loopw [38, 39, 40, 41, 42, 204] (fun sv _ _ _ _ iv wr => ∃ (k : Nat) (x : Int), k ≤ T2.length ∧ iv = .int .i64 k ∧ sv = .int .i64 x ∧ 0 ≤ x ∧ x ≤ 2089984 * k ∧ Hid (cTo P2 T2 (opens Q2 R2) k = x) ∧ Below wO.heap.size wO wr) (fun _ _ _ _ _ iv _ => T2.length - (intOf iv).toNat)
    case atStart => exact ⟨0, 0, by omega, rfl, rfl, by omega, by omega, Lib.hid rfl, Below.refl _ _⟩
    case round =>
      obtain ⟨k, x, hk, rfl, rfl, hx0, hx1, H, hb⟩ := hrel
      have BBR := Lib.hid (Below.next hb BB.out BB.out.size)
      by_cases hlt : k < T2.length
      · obtain ⟨y, hy⟩ := some_of_lt (L := opens Q2 R2) (k := k) (by have := HLE.out; omega)
        obtain ⟨y, rfl, hyl⟩ := op_nat HAB.out hy
        obtain ⟨z, hzz⟩ := some_of_lt hlt
        obtain ⟨z, rfl, hzl⟩ := mv_nat HCV.out hzz
        obtain ⟨s, hs⟩ := some_of_lt hzl
        obtain ⟨u, hu⟩ := some_of_lt hyl
        obtain ⟨b0, o0, rfl, e1⟩ := (MO.out.below hb).int hy
        obtain ⟨b1, o1, rfl, e2⟩ := (MT2.out.below hb).int hzz
        obtain ⟨b, off, rfl, e3, e4⟩ := (MP2.out.below hb).spot hs
        obtain ⟨b', off', e5, e6, e7⟩ := (MP2.out.below hb).spot hu
        obtain ⟨rfl, rfl⟩ : b = b' ∧ off = off' := by simpa using e5
        have hsg := all_at HGS.out hs
        have hug := all_at HGS.out hu
        have hbd := sq_bd hug hsg
        have HST := Lib.hid (cTo_succ hzz hy hs hu)
        have HCO := Lib.hid (sq_comm u s)
        have k1 := cell_regrown (w := wr) e1
        have k2 := cell_regrown (w := wr) e2
        have k3 := cell_regrown (w := wr) e3
        have k4 := cell_regrown (w := wr) e4
        have k6 := cell_regrown (w := wr) e6
        have k7 := cell_regrown (w := wr) e7
        have cc : ∀ dd os, Calls Try.prog 31 #[.agg #[.int .i64 u.x, .int .i64 u.y], .agg #[.int .i64 s.x, .int .i64 s.y]] (grow (redrawn wr dd) os) fun e w'' => e = .returned (.tuple #[.int .i64 (sq u s), .bool true]) ∧ ∃ p : Regrown, w'' = grow (redrawn wr p.d) p.os :=
          fun dd os => Calls.regrown_of ((impl_SquareOf_any u s _).mono (by rintro e w' ⟨rfl, hq⟩; exact ⟨by simp [sqV, hug, hsg], hq⟩))
        have C1 := Lib.hid cc
        have w1e : IntKind.i64.wrap (x + sq u s) = x + sq u s := IntWalk.i64_in _ (by omega)
        clear hy hzz hs hu e5 cc
        go_wp2
        refine wp_region_quiet_below (by kernel_rfl) (by kernel_rfl) ?_
        repeat (first | go_big_quiet_step (exact C1.out _ _) | quiet_step (exact C1.out _ _))
        refine wpQuiet_nil ?_
        intro _ hw'
        obtain ⟨⟨dq, osq⟩, hw''⟩ := hw'
        subst hw''
        have hb5 := below_regrown wr dq osq
        clear k1 k2 k3 k4 k6 k7 e1 e2 e3 e4 e6 e7
        generalize grow (redrawn wr dq) osq = w6 at *
        go_wp2
        go_roundw
        case rel => exact ⟨k + 1, x + sq u s, by omega, by go_num, by first | rfl | go_num, by omega, by omega, Lib.hid (by rw [HST.out, H.out, HCO.out]), Below.next hb5 hb hb.size⟩
        case measure => simp [intOf]; omega
      · obtain rfl : k = T2.length := by omega
        have hsx : sm = x := by rw [← HSUM.out, HSV.out, ← HLE.out, H.out]
        subst hsx
        go_wp2
        go_meet
        exact ⟨BBR.out, Lib.hid (ML.out.below hb), Lib.hid (MM.out.below hb)⟩
  case rest => as_aux_lemma =>
    obtain ⟨hbc, ML, MM⟩ := hcut
    have BB := Lib.hid hbc
    clear hbc HONE HSUM MP2 MT2 MQ2 MR2
    generalize hok : wkB L M = ok
    have HOK := Lib.hid hok
    clear hok
    cases ok
    · go_wp2
      go_ret
      exact ⟨rfl, BB.out⟩
    have HF := Lib.hid (fun (i : Nat) (hi : i < L.length) => wk_facts HOK.out hi)
    generalize hwv : wkV L M = wv at *
    generalize hwn : wkN L M = wn at *
    clear hwv hwn
    go_wp2
    go_loopw [43, 44, 45, 46, 47, 48, 49, 237] (fun _ _ _ _ _ _ _ iv wr => ∃ k : Nat, k ≤ L.length ∧ iv = .int .i64 k ∧ Below wc.heap.size wc wr) (fun _ _ _ _ _ _ _ iv _ => L.length - (intOf iv).toNat)
    case atStart => exact ⟨0, by omega, rfl, Below.refl _ _⟩
    case round =>
      obtain ⟨k, hk, rfl, hb⟩ := hrel
      have HB := Lib.hid hb
      have zz := hb.size
      clear hb
      by_cases hkl : k < L.length
      · obtain ⟨f1, f2, f3⟩ := HF.out k hkl
        have hlk : lkB L [(k : Int)] M = lcA L [(k : Int)] M := by rw [lkB, f1]; rfl
        have hnk : lkN L [(k : Int)] M = lcN L [(k : Int)] M := by rw [lkN, f1]; rfl
        have ba : Below wc.heap.size wc (wr.alloc (.cells #[.int .i64 (k : Int)] 3)) := HB.out.alloc zz _
        have HBA := Lib.hid ba
        have F2 := Lib.hid f2
        have F3 := Lib.hid f3
        have HLK := Lib.hid hlk
        have HNK := Lib.hid hnk
        clear f1 f2 f3 hlk hnk ba
        go_wp2_with fail
        refine (impl_LeastCoverOf_any _ _ L _ _ [(k : Int)] _ _ M _ (ML.out.below HBA.out) (Mem.one _ _ _) (MM.out.below HBA.out) (by omega) (by simp) (by omega) CML).mono ?_
        rintro e w2 ⟨A2, c2, rfl, _, hq2⟩
        rw [HLK.out, HNK.out]
        have HB2 := Lib.hid (HBA.out.trans (hq2.mono (by simp; omega)))
        have zz2 := HB2.out.size
        have HBB := Lib.hid (HB2.out.alloc zz2 (.cells #[.int .i64 (k : Int)] 3))
        clear hq2
        go_wp2_with fail
        refine (spec_LeastCoverOf_any _ _ L _ _ [(k : Int)] _ _ M _ (ML.out.below HBB.out) (Mem.one _ _ _) (MM.out.below HBB.out) (by omega) (by simp) (by omega) CML).mono ?_
        rintro e w3 ⟨A3, c3, rfl, _, hq3⟩
        rw [HLK.out, HNK.out]
        have HB3 := Lib.hid (HBB.out.trans (hq3.mono (by simp; omega)))
        clear hq3
        generalize hA : lcA L [(k : Int)] M = la at *
        generalize hN : lcN L [(k : Int)] M = ln at *
        clear hA hN
        have f2 := F2.out
        have f3 := F3.out
        clear F2 F3 HLK HNK
        cases la
        · have e1 : ((k : Int) == wv) = false := beq_eq_false_iff_ne.2 (fun e => by have := (f3 e).1; cases this)
          clear f2 f3
          go_wp2
          go_roundw
          case rel => exact ⟨k + 1, by omega, by go_num, HB3.out⟩
          case measure => simp [intOf]; omega
        · obtain ⟨g1, g2⟩ := f2 rfl
          have g1' : ¬ wn < ln := by omega
          by_cases hen : ln = wn
          · subst hen
            have g3 := g2 rfl
            have g3' : ¬ (k : Int) < wv := by omega
            clear f2 f3 g2
            by_cases hiv : (k : Int) = wv
            · have e1 : ((k : Int) == wv) = true := by simp [hiv]
              clear hiv
              go_wp2
              go_roundw
              case rel => exact ⟨k + 1, by omega, by go_num, HB3.out⟩
              case measure => simp [intOf]; omega
            · have e1 : ((k : Int) == wv) = false := beq_eq_false_iff_ne.2 hiv
              clear hiv
              go_wp2
              go_roundw
              case rel => exact ⟨k + 1, by omega, by go_num, HB3.out⟩
              case measure => simp [intOf]; omega
          · have e1 : ((k : Int) == wv) = false := beq_eq_false_iff_ne.2 (fun e => hen (f3 e).2)
            have e2 : (ln == wn) = false := beq_eq_false_iff_ne.2 hen
            clear f2 f3 g2
            go_wp2
            go_roundw
            case rel => exact ⟨k + 1, by omega, by go_num, HB3.out⟩
            case measure => simp [intOf]; omega
      · go_wp2
        go_ret
        exact ⟨rfl, BB.out.trans (HB.out.mono BB.out.size)⟩

end Go.Proofs.Ythppancpecjegaa
