/-
  FnSound: the walk.
-/
import Derived.Test.YtdipmjflgjlfeaaLws
import Derived.Test.YtdipmjflgjlfeaaDrz
import Derived.Test.YtdipmjflgjlfeaaSndc
import Derived.Test.YtdipmjflgjlfeaaSnde
import Derived.Test.YtdipmjflgjlfeaaFsp
import Derived.Deep.DeepCutAuto
import Derived.Lib.QuietBelow
namespace Go.Proofs.Ytdipmjflgjlfeaa
open Go.RowKit Go.Sort

theorem code_of {w : World} {A : Option Addr} {L : List Int} {c : Nat} (hm : Mem w A (L.flatMap fun n => [Value.int .u8 n])) (ho : ∀ x ∈ L, okByte x) (h1 : L.length ≤ c) (h2 : c ≤ maxLen) : code w A L :=
  ⟨hm, ho, by unfold maxLen at h2; omega⟩
theorem sndV_comm (a b : Sp) : sndV a b = sndV b a := by
  unfold sndV
  rw [sq_comm, Bool.and_comm]
/-- What is asked of a time and its square. -/
theorem reach_facts {a b : Sp} (h : (isSp a && isSp b) = true) : ∃ t : Int, sndV a b = t ∧ 0 ≤ t ∧ t ≤ 302 ∧ inR t 0 1000 = true ∧ sqV a b ≤ reachV t ∧ (0 < t → inR (t - 1) 0 1000 = true ∧ reachV (t - 1) < sqV a b) := by
  obtain ⟨ha, hb⟩ : isSp a = true ∧ isSp b = true := by simpa using h
  have hq := sq_bd ha hb
  obtain ⟨h1, h2, h3⟩ := sndT_spec hq.1 hq.2
  have hr : inR (sndT (sq a b) : Int) 0 1000 = true := by simp [inR]; omega
  refine ⟨sndT (sq a b), by simp [sndV, h], by omega, by omega, hr, ?_, fun h0 => ?_⟩
  · rw [reachV, if_pos hr, sqV, if_pos h]
    omega
  · have hr1 : inR ((sndT (sq a b) : Int) - 1) 0 1000 = true := by simp [inR]; omega
    refine ⟨hr1, ?_⟩
    rw [reachV, if_pos hr1, sqV, if_pos h]
    have h4 := h3 (sndT (sq a b) - 1) (by omega)
    rw [show ((sndT (sq a b) - 1 : Nat) : Int) = (sndT (sq a b) : Int) - 1 from by omega] at h4
    omega

set_option maxRecDepth 100000 in
set_option maxHeartbeats 4000000 in
theorem FnSound_walk (A0 : Option Addr) (c0 : Nat) (L0 : List Int) (A1 : Option Addr) (c1 : Nat) (L1 : List Int) (W : World) (m0 : Mem W A0 (L0.flatMap fun n => [Value.int .u8 n])) (k0 : ∀ x ∈ L0, okByte x) (l0 : L0.length ≤ c0) (n0 : c0 ≤ maxLen)
    (m1 : Mem W A1 (L1.flatMap fun n => [Value.int .u8 n])) (k1 : ∀ x ∈ L1, okByte x) (l1 : L1.length ≤ c1) (n1 : c1 ≤ maxLen) :
    Calls Try.prog 3 #[.slice A0 L0.length c0, .slice A1 L1.length c1] W fun e W' => e = .returned (.bool true) ∧ Below W.heap.size W W' := by
  have K0 := Lib.hid (code_of m0 k0 l0 n0)
  have K1 := Lib.hid (code_of m1 k1 l1 n1)
  unfold maxLen at n0 n1
  have q0 : L0.length ≤ 9223372036854775807 := by omega
  clear m0 k0 l0 n0 m1 k1 l1 n1
  go_enter Try.func3, Try.ntmps3
  go_wp2_with fail
  refine (big_any _ _ _ _ _ _ _ q0).mono ?_
  rintro e w1 ⟨b, rfl, rfl⟩
  cases b
  case true =>
    go_wp2
    go_ret
    exact ⟨rfl, Below.refl _ _⟩
  go_wp2_with fail
  refine (drawSoundTime_any _ _ _ _ K0.out).mono ?_
  rintro e w1 ⟨x, y, x', y', rfl, ha, hb, hb1⟩
  have B1 := Lib.hid hb1
  have z1 : W.heap.size ≤ w1.heap.size := hb1.size
  have S1 : ((w1.alloc (.cells #[.int .i64 x, .int .i64 y] 25)).alloc (.cells #[.int .i64 x', .int .i64 y'] 25)).cell? ⟨w1.heap.size, 0, none⟩ = some (.int .i64 x) ∧ ((w1.alloc (.cells #[.int .i64 x, .int .i64 y] 25)).alloc (.cells #[.int .i64 x', .int .i64 y'] 25)).cell? ⟨w1.heap.size, 1, none⟩ = some (.int .i64 y) ∧
      ((w1.alloc (.cells #[.int .i64 x, .int .i64 y] 25)).alloc (.cells #[.int .i64 x', .int .i64 y'] 25)).cell? ⟨w1.heap.size + 1, 0, none⟩ = some (.int .i64 x') ∧ ((w1.alloc (.cells #[.int .i64 x, .int .i64 y] 25)).alloc (.cells #[.int .i64 x', .int .i64 y'] 25)).cell? ⟨w1.heap.size + 1, 1, none⟩ = some (.int .i64 y') := by
    simp [go_sem]
  have H1 := Lib.hid S1
  have B1' := Lib.hid ((hb1.alloc z1 (.cells #[.int .i64 x, .int .i64 y] 25)).alloc (by simp; omega) (.cells #[.int .i64 x', .int .i64 y'] 25))
  clear hb1 S1 B1
  obtain ⟨t, ht⟩ : ∃ t, sndV ⟨x, y⟩ ⟨x', y'⟩ = t := ⟨_, rfl⟩
  obtain ⟨ok, hok⟩ : ∃ ok, (isSp ⟨x, y⟩ && isSp ⟨x', y'⟩) = ok := ⟨_, rfl⟩
  have HT := Lib.hid ht
  have HK := Lib.hid hok
  clear ht hok ha hb
  go_wp2_with fail
  refine (impl_SoundTime_any ⟨x, y⟩ ⟨x', y'⟩ _).mono ?_
  rintro e w2 ⟨he, hq⟩
  rw [HT.out, HK.out] at he
  subst he
  have S2 := keep4 hq H1.out
  have B2 := Lib.hid (Below.next hq B1'.out (by simp; omega))
  have z2 : W.heap.size ≤ w2.heap.size := B2.out.size
  clear hq
  obtain ⟨a1, a2, a3, a4⟩ := S2
  have H2 := Lib.hid (And.intro a1 (And.intro a2 (And.intro a3 a4)))
  go_wp2_with fail
  refine (spec_SoundTime_any ⟨x, y⟩ ⟨x', y'⟩ _).mono ?_
  rintro e w3 ⟨he, hq⟩
  rw [HT.out, HK.out] at he
  subst he
  have H3 := Lib.hid (keep4 hq H2.out)
  have B3 := Lib.hid (Below.next hq B2.out z2)
  have z3 : W.heap.size ≤ w3.heap.size := B3.out.size
  clear hq a1 a2 a3 a4
  go_upto_if 81 with (fail)
  go_cut [] (fun wx => Below W.heap.size W wx)
  case first => as_aux_lemma =>
    cases ok
    · go_wp2
      go_meet
      exact B3.out
    · obtain ⟨t', ht', r1, r2, r3, r4, r5⟩ := reach_facts HK.out
      obtain rfl : t' = t := ht'.symm.trans HT.out
      obtain ⟨a1, a2, a3, a4⟩ := H3.out
      have R5 := Lib.hid r5
      have R3 := Lib.hid r3
      obtain ⟨s, hs⟩ : ∃ s, sqV ⟨x, y⟩ ⟨x', y'⟩ = s := ⟨_, rfl⟩
      obtain ⟨r, hr⟩ : ∃ r, reachV t' = r := ⟨_, rfl⟩
      rw [hs, hr] at r4
      have HS := Lib.hid hs
      have HR := Lib.hid hr
      clear r5 r3 hs hr ht'
      go_wp2_with fail
      refine (impl_SquareOf_any ⟨x, y⟩ ⟨x', y'⟩ _).mono ?_
      rintro e w4 ⟨he, hq⟩
      rw [HS.out, HK.out] at he
      subst he
      have H4 := Lib.hid (keep4 hq H3.out)
      have B4 := Lib.hid (Below.next hq B3.out z3)
      have z4 : W.heap.size ≤ w4.heap.size := B4.out.size
      clear hq a1 a2 a3 a4
      go_wp2_with fail
      refine (impl_ReachSquare_any _ _).mono ?_
      rintro e w5 ⟨he, rfl⟩
      rw [HR.out, R3.out] at he
      subst he
      obtain ⟨a1, a2, a3, a4⟩ := H4.out
      go_wp2_with fail
      refine (impl_SoundTime_any ⟨x', y'⟩ ⟨x, y⟩ _).mono ?_
      rintro e w5 ⟨he, hq⟩
      rw [sndV_comm, HT.out, Bool.and_comm, HK.out] at he
      subst he
      have B5 := Lib.hid (Below.next hq B4.out z4)
      clear hq a1 a2 a3 a4
      by_cases hpos : 0 < t'
      · obtain ⟨p1, p2⟩ := R5.out hpos
        rw [HS.out] at p2
        obtain ⟨r', hr'⟩ : ∃ r', reachV (t' - 1) = r' := ⟨_, rfl⟩
        rw [hr'] at p2
        have HR' := Lib.hid hr'
        have P1 := Lib.hid p1
        clear hr' p1
        go_wp2_with fail
        refine (impl_ReachSquare_any _ _).mono ?_
        rintro e w6 ⟨he, rfl⟩
        rw [HR'.out, P1.out] at he
        subst he
        go_wp2
        go_meet
        exact B5.out
      · go_wp2
        go_meet
        exact B5.out
  case rest =>
    have BX := Lib.hid hcut
    have zx : W.heap.size ≤ wc.heap.size := hcut.size
    clear hcut HT HK H1 H2 H3 B1' B2 B3 K0 z1 z2 z3
    go_wp2_with fail
    refine (drawSpreadAt_any _ _ _ _ (K1.out.below BX.out)).mono ?_
    rintro e w6 ⟨A', c', L, x, y, rfl, ⟨ho, hl, hL⟩, hs, hb6⟩
    have hb7 : Below w6.heap.size w6 (w6.alloc (.cells #[.int .i64 x, .int .i64 y] 25)) := (Below.refl _ _).alloc (Nat.le_refl _) _
    have MM := Lib.hid ((Mem.of_own ho).below hb7)
    have BB := Lib.hid ((Below.next hb6 BX.out zx).alloc (by have := hb6.size; omega) (.cells #[.int .i64 x, .int .i64 y] 25))
    have p1 : (w6.alloc (.cells #[.int .i64 x, .int .i64 y] 25)).cell? ⟨w6.heap.size, 0, none⟩ = some (.int .i64 x) := by simp [go_sem]
    have p2 : (w6.alloc (.cells #[.int .i64 x, .int .i64 y] 25)).cell? ⟨w6.heap.size, 1, none⟩ = some (.int .i64 y) := by simp [go_sem]
    obtain ⟨sv, hsv⟩ : ∃ v, q1V L ⟨x, y⟩ (spr L ⟨x, y⟩) = v := ⟨_, rfl⟩
    obtain ⟨fv, hfv⟩ : ∃ v, q1V L ⟨x, y⟩ (argmin (times L ⟨x, y⟩) L.length) = v := ⟨_, rfl⟩
    obtain ⟨ok2, hok2⟩ : ∃ ok, (srcOk L && isSp ⟨x, y⟩) = ok := ⟨_, rfl⟩
    have HSV := Lib.hid hsv
    have HFV := Lib.hid hfv
    have HK2 := Lib.hid hok2
    clear hsv hfv hok2 ho hL hs hb6 hb7
    go_wp2_with fail
    refine (impl_SpreadAt_any A' c' L ⟨x, y⟩ _ MM.out (by omega)).mono ?_
    rintro e w7 ⟨he, hq⟩
    rw [HSV.out, HK2.out] at he
    subst he
    have p1' := keep1 hq p1
    have p2' := keep1 hq p2
    have m' := MM.out.below hq
    have b' := Below.next hq BB.out BB.out.size
    clear p1 p2 MM BB hq
    have MM := Lib.hid m'
    have BB := Lib.hid b'
    clear m' b'
    have p1 := p1'
    have p2 := p2'
    clear p1' p2'
    go_wp2_with fail
    refine (spec_SpreadAt_any A' c' L ⟨x, y⟩ _ MM.out (by omega)).mono ?_
    rintro e w8 ⟨he, hq⟩
    rw [HSV.out, HK2.out] at he
    subst he
    have p1' := keep1 hq p1
    have p2' := keep1 hq p2
    have m' := MM.out.below hq
    have b' := Below.next hq BB.out BB.out.size
    clear p1 p2 MM BB hq
    have MM := Lib.hid m'
    have BB := Lib.hid b'
    clear m' b'
    have p1 := p1'
    have p2 := p2'
    clear p1' p2'
    go_wp2_with fail
    refine (impl_HeardFirst_any A' c' L ⟨x, y⟩ _ MM.out (by omega)).mono ?_
    rintro e w9 ⟨he, hq⟩
    rw [HFV.out, HK2.out] at he
    subst he
    have p1' := keep1 hq p1
    have p2' := keep1 hq p2
    have m' := MM.out.below hq
    have b' := Below.next hq BB.out BB.out.size
    clear p1 p2 MM BB hq
    have MM := Lib.hid m'
    have BB := Lib.hid b'
    clear m' b'
    have p1 := p1'
    have p2 := p2'
    clear p1' p2'
    go_wp2_with fail
    refine (spec_HeardFirst_any A' c' L ⟨x, y⟩ _ MM.out (by omega)).mono ?_
    rintro e w10 ⟨he, hq⟩
    rw [HFV.out, HK2.out] at he
    subst he
    have p1' := keep1 hq p1
    have p2' := keep1 hq p2
    have m' := MM.out.below hq
    have b' := Below.next hq BB.out BB.out.size
    clear p1 p2 MM BB hq
    have MM := Lib.hid m'
    have BB := Lib.hid b'
    clear m' b'
    have p1 := p1'
    have p2 := p2'
    clear p1' p2'
    go_upto_if 186 with (fail)
    go_cut [] (fun wx => Below W.heap.size W wx)
    case first => as_aux_lemma =>
      cases ok2
      · go_wp2
        go_meet
        exact BB.out
      obtain ⟨j, s, tv, sp, hs, hj, hjl, hsg, htv, hsp, t0, s0, hsum, hlen, hless⟩ := within_facts HK2.out
      have hq1 : ∀ v, q1V L ⟨x, y⟩ v = v := fun v => by rw [q1V, if_pos HK2.out]
      obtain rfl : (j : Int) = fv := by rw [← HFV.out, hq1, hj]
      obtain rfl : sp = sv := by rw [← HSV.out, hq1, hsp]
      obtain ⟨b, off, rfl, d1, d2⟩ := MM.out.spot hs
      have HTV := Lib.hid htv
      have HG := Lib.hid hsg
      have HLESS := Lib.hid hless
      have im : inR (tv + sp) 0 1000 = true := by simp [inR]; omega
      have IM := Lib.hid im
      obtain ⟨V, hV⟩ : ∃ V, hwV L ⟨x, y⟩ (tv + sp) = V := ⟨_, rfl⟩
      have hVl : V.length = L.length := by rw [← hV, hwV, if_pos (by rw [HK2.out, im]; rfl)]; exact hlen
      have HV := Lib.hid hV
      have e9 : ((V.length : Int) != (L.length : Int)) = false := by simp [hVl]
      have hVb : V.length ≤ 1048576 := by omega
      clear hq1 hj htv hsg hs hlen hless im hV hVl hsp
      have e1 := cell_regrown (w := w10) (a := ⟨b, off + j * 2, none⟩) (v := .int .i64 s.x) d1
      have e2 := cell_regrown (w := w10) (a := ⟨b, off + j * 2 + 1, none⟩) (v := .int .i64 s.y) d2
      have e3 := cell_regrown (w := w10) (a := ⟨w6.heap.size, 0, none⟩) (v := .int .i64 x) p1
      have e4 := cell_regrown (w := w10) (a := ⟨w6.heap.size, 1, none⟩) (v := .int .i64 y) p2
      have cc : ∀ dd os, Calls Try.prog 9 #[.agg #[.int .i64 s.x, .int .i64 s.y], .agg #[.int .i64 x, .int .i64 y]] (grow (redrawn w10 dd) os) fun e w'' => e = .returned (.tuple #[.int .i64 tv, .bool true]) ∧ ∃ p : Regrown, w'' = grow (redrawn w10 p.d) p.os :=
        fun dd os => Calls.regrown_of ((impl_SoundTime_any s ⟨x, y⟩ _).mono fun e w' ⟨he, hq⟩ => ⟨by rw [he, HTV.out, HG.out], hq⟩)
      have C1 := Lib.hid cc
      clear cc
      go_wp2
      refine wp_region_quiet_below (by kernel_rfl) (by kernel_rfl) ?_
      repeat (first | go_big_quiet_step (exact C1.out _ _) | quiet_step (exact C1.out _ _))
      refine wpQuiet_nil ?_
      intro _ hw'
      obtain ⟨⟨dq, osq⟩, hw''⟩ := hw'
      subst hw''
      have hq := below_regrown w10 dq osq
      clear e1 e2 e3 e4 C1
      generalize grow (redrawn w10 dq) osq = w11 at *
      have d1' := keep1 hq d1
      have d2' := keep1 hq d2
      have p1' := keep1 hq p1
      have p2' := keep1 hq p2
      have m' := MM.out.below hq
      have b' := Below.next hq BB.out BB.out.size
      clear d1 d2 p1 p2 MM BB hq
      have MM := Lib.hid m'
      have BB := Lib.hid b'
      clear m' b'
      have d1 := d1'
      have d2 := d2'
      have p1 := p1'
      have p2 := p2'
      clear d1' d2' p1' p2'
      have e1 := cell_regrown (w := w11) (a := ⟨b, off + j * 2, none⟩) (v := .int .i64 s.x) d1
      have e2 := cell_regrown (w := w11) (a := ⟨b, off + j * 2 + 1, none⟩) (v := .int .i64 s.y) d2
      have e3 := cell_regrown (w := w11) (a := ⟨w6.heap.size, 0, none⟩) (v := .int .i64 x) p1
      have e4 := cell_regrown (w := w11) (a := ⟨w6.heap.size, 1, none⟩) (v := .int .i64 y) p2
      have cc : ∀ dd os, Calls Try.prog 10 #[.agg #[.int .i64 s.x, .int .i64 s.y], .agg #[.int .i64 x, .int .i64 y]] (grow (redrawn w11 dd) os) fun e w'' => e = .returned (.tuple #[.int .i64 tv, .bool true]) ∧ ∃ p : Regrown, w'' = grow (redrawn w11 p.d) p.os :=
        fun dd os => Calls.regrown_of ((spec_SoundTime_any s ⟨x, y⟩ _).mono fun e w' ⟨he, hq⟩ => ⟨by rw [he, HTV.out, HG.out], hq⟩)
      have C1 := Lib.hid cc
      clear cc
      go_wp2
      refine wp_region_quiet_below (by kernel_rfl) (by kernel_rfl) ?_
      repeat (first | go_big_quiet_step (exact C1.out _ _) | quiet_step (exact C1.out _ _))
      refine wpQuiet_nil ?_
      intro _ hw'
      obtain ⟨⟨dq, osq⟩, hw''⟩ := hw'
      subst hw''
      have hq := below_regrown w11 dq osq
      clear e1 e2 e3 e4 C1
      generalize grow (redrawn w11 dq) osq = w12 at *
      have d1' := keep1 hq d1
      have d2' := keep1 hq d2
      have p1' := keep1 hq p1
      have p2' := keep1 hq p2
      have m' := MM.out.below hq
      have b' := Below.next hq BB.out BB.out.size
      clear d1 d2 p1 p2 MM BB hq
      have MM := Lib.hid m'
      have BB := Lib.hid b'
      clear m' b'
      have d1 := d1'
      have d2 := d2'
      have p1 := p1'
      have p2 := p2'
      clear d1' d2' p1' p2'
      go_wp2_with fail
      refine (impl_HeardWithin_any _ c' L ⟨x, y⟩ _ _ MM.out (by omega)).mono ?_
      rintro e w13 ⟨VA, Vc, he, ho, hq⟩
      rw [HV.out, HK2.out, IM.out] at he
      rw [HV.out] at ho
      subst he
      have VM := Lib.hid (Mem.of_own ho)
      clear ho
      have p1' := keep1 hq p1
      have p2' := keep1 hq p2
      have m' := MM.out.below hq
      have b' := Below.next hq BB.out BB.out.size
      clear p1 p2 MM BB hq
      have MM := Lib.hid m'
      have BB := Lib.hid b'
      clear m' b'
      have p1 := p1'
      have p2 := p2'
      clear p1' p2'
      go_wp2_with fail
      refine (spec_HeardWithin_any _ c' L ⟨x, y⟩ _ _ MM.out (by omega)).mono ?_
      rintro e w14 ⟨VB, Vd, he, ho, hq⟩
      rw [HV.out, HK2.out, IM.out] at he
      rw [HV.out] at ho
      subst he
      have VN := Lib.hid (Mem.of_own ho)
      have VM' := Lib.hid (VM.out.below hq)
      clear ho VM
      have p1' := keep1 hq p1
      have p2' := keep1 hq p2
      have m' := MM.out.below hq
      have b' := Below.next hq BB.out BB.out.size
      clear p1 p2 MM BB hq
      have MM := Lib.hid m'
      have BB := Lib.hid b'
      clear m' b'
      have p1 := p1'
      have p2 := p2'
      clear p1' p2'
      by_cases hpos : 0 < sp
      · obtain ⟨hu1, hu2⟩ := HLESS.out hpos
        have im2 : inR (tv + sp - 1) 0 1000 = true := by simp [inR]; omega
        have IM2 := Lib.hid im2
        obtain ⟨U, hU⟩ : ∃ U, hwV L ⟨x, y⟩ (tv + sp - 1) = U := ⟨_, rfl⟩
        have hUu : U = upto (times L ⟨x, y⟩) (tv + sp - 1) L.length := by rw [← hU, hwV, if_pos (by rw [HK2.out, im2]; rfl)]
        rw [← hUu] at hu1 hu2
        have HU := Lib.hid hU
        have f1 : ((U.length : Int) == (L.length : Int)) = false := by simp; omega
        have f2 : ((U.length : Int) == 0) = false := beq_eq_false_iff_ne.2 (by omega)
        have hUb : U.length ≤ 1048576 := by omega
        clear im2 hU hUu
        go_wp2_with fail
        refine (sameInts_same _ _ _ _ V _ VM'.out VN.out hVb).mono ?_
        rintro e w' ⟨rfl, hq⟩
        have p1' := keep1 hq p1
        have p2' := keep1 hq p2
        have m' := MM.out.below hq
        have b' := Below.next hq BB.out BB.out.size
        clear p1 p2 MM BB hq
        have MM := Lib.hid m'
        have BB := Lib.hid b'
        clear m' b'
        have p1 := p1'
        have p2 := p2'
        clear p1' p2'
        go_wp2_with fail
        refine (impl_HeardWithin_any _ c' L ⟨x, y⟩ _ _ MM.out (by omega)).mono ?_
        rintro e w16 ⟨UA, Uc, he, ho, hq⟩
        rw [HU.out, HK2.out, IM2.out] at he
        rw [HU.out] at ho
        subst he
        have UM := Lib.hid (Mem.of_own ho)
        clear ho
        have p1' := keep1 hq p1
        have p2' := keep1 hq p2
        have m' := MM.out.below hq
        have b' := Below.next hq BB.out BB.out.size
        clear p1 p2 MM BB hq
        have MM := Lib.hid m'
        have BB := Lib.hid b'
        clear m' b'
        have p1 := p1'
        have p2 := p2'
        clear p1' p2'
        go_wp2_with fail
        refine (spec_HeardWithin_any _ c' L ⟨x, y⟩ _ _ MM.out (by omega)).mono ?_
        rintro e w17 ⟨UB, Ud, he, ho, hq⟩
        rw [HU.out, HK2.out, IM2.out] at he
        rw [HU.out] at ho
        subst he
        have UN := Lib.hid (Mem.of_own ho)
        have UM' := Lib.hid (UM.out.below hq)
        clear ho UM
        have p1' := keep1 hq p1
        have p2' := keep1 hq p2
        have m' := MM.out.below hq
        have b' := Below.next hq BB.out BB.out.size
        clear p1 p2 MM BB hq
        have MM := Lib.hid m'
        have BB := Lib.hid b'
        clear m' b'
        have p1 := p1'
        have p2 := p2'
        clear p1' p2'
        go_wp2_with fail
        refine (sameInts_same _ _ _ _ U _ UM'.out UN.out hUb).mono ?_
        rintro e w' ⟨rfl, hq⟩
        have p1' := keep1 hq p1
        have p2' := keep1 hq p2
        have m' := MM.out.below hq
        have b' := Below.next hq BB.out BB.out.size
        clear p1 p2 MM BB hq
        have MM := Lib.hid m'
        have BB := Lib.hid b'
        clear m' b'
        have p1 := p1'
        have p2 := p2'
        clear p1' p2'
        go_wp2
        go_meet
        exact BB.out
      · skip
        go_wp2_with fail
        refine (sameInts_same _ _ _ _ V _ VM'.out VN.out hVb).mono ?_
        rintro e w' ⟨rfl, hq⟩
        have p1' := keep1 hq p1
        have p2' := keep1 hq p2
        have m' := MM.out.below hq
        have b' := Below.next hq BB.out BB.out.size
        clear p1 p2 MM BB hq
        have MM := Lib.hid m'
        have BB := Lib.hid b'
        clear m' b'
        have p1 := p1'
        have p2 := p2'
        clear p1' p2'
        go_wp2
        go_meet
        exact BB.out
    case rest => as_aux_lemma =>
      have BX := Lib.hid hcut
      have zx : W.heap.size ≤ wc.heap.size := hcut.size
      clear hcut MM BB p1 p2 HSV HFV HK2
      go_wp2_with fail
      refine (drawReachSquare_any _ _ _ _ (K1.out.below BX.out)).mono ?_
      rintro e w20 ⟨n, rfl, hn0, hn1, hb20⟩
      have BB := Lib.hid (Below.next hb20 BX.out zx)
      clear hb20
      obtain ⟨rv, hrv⟩ : ∃ v, reachV n = v := ⟨_, rfl⟩
      obtain ⟨ro, hro⟩ : ∃ v, inR n 0 1000 = v := ⟨_, rfl⟩
      have HRV := Lib.hid hrv
      have HRO := Lib.hid hro
      clear hrv hro
      go_wp2_with fail
      refine (impl_ReachSquare_any _ _).mono ?_
      rintro e w21 ⟨he, rfl⟩
      rw [HRV.out, HRO.out] at he
      subst he
      go_wp2_with fail
      refine (spec_ReachSquare_any _ _).mono ?_
      rintro e w21 ⟨he, rfl⟩
      rw [HRV.out, HRO.out] at he
      subst he
      go_wp2_with fail
      refine (drawHeardWithin_any _ _ _ _ (K1.out.below BB.out)).mono ?_
      rintro e w22 ⟨A', c', L, x, y, m, rfl, ⟨ho, hl, hL⟩, hs, m0, m1, hb22⟩
      have hb23 : Below w22.heap.size w22 (w22.alloc (.cells #[.int .i64 x, .int .i64 y] 25)) := (Below.refl _ _).alloc (Nat.le_refl _) _
      have MM := Lib.hid ((Mem.of_own ho).below hb23)
      have bb := (Below.next hb22 BB.out BB.out.size).alloc (by have := hb22.size; have := BB.out.size; omega) (.cells #[.int .i64 x, .int .i64 y] 25)
      clear BB
      have BB := Lib.hid bb
      have p1 : (w22.alloc (.cells #[.int .i64 x, .int .i64 y] 25)).cell? ⟨w22.heap.size, 0, none⟩ = some (.int .i64 x) := by simp [go_sem]
      have p2 : (w22.alloc (.cells #[.int .i64 x, .int .i64 y] 25)).cell? ⟨w22.heap.size, 1, none⟩ = some (.int .i64 y) := by simp [go_sem]
      obtain ⟨V, hV⟩ : ∃ V, hwV L ⟨x, y⟩ m = V := ⟨_, rfl⟩
      obtain ⟨ok3, hok3⟩ : ∃ ok, ((srcOk L && isSp ⟨x, y⟩) && inR m 0 1000) = ok := ⟨_, rfl⟩
      have hVb : V.length ≤ 1048576 := by
        rw [← hV, hwV]
        split
        · have := upto_len (times L ⟨x, y⟩) m L.length; rw [times_len] at this; omega
        · simp
      have HV := Lib.hid hV
      have HK2 := Lib.hid hok3
      clear hV hok3 ho hL hs hb22 hb23 bb
      go_wp2_with fail
      refine (impl_HeardWithin_any _ c' L ⟨x, y⟩ _ _ MM.out (by omega)).mono ?_
      rintro e w23 ⟨VA, Vc, he, ho, hq⟩
      rw [HV.out, HK2.out] at he
      rw [HV.out] at ho
      subst he
      have VM := Lib.hid (Mem.of_own ho)
      clear ho
      have p1' := keep1 hq p1
      have p2' := keep1 hq p2
      have m' := MM.out.below hq
      have b' := Below.next hq BB.out BB.out.size
      clear p1 p2 MM BB hq
      have MM := Lib.hid m'
      have BB := Lib.hid b'
      clear m' b'
      have p1 := p1'
      have p2 := p2'
      clear p1' p2'
      go_wp2_with fail
      refine (spec_HeardWithin_any _ c' L ⟨x, y⟩ _ _ MM.out (by omega)).mono ?_
      rintro e w24 ⟨VB, Vd, he, ho, hq⟩
      rw [HV.out, HK2.out] at he
      rw [HV.out] at ho
      subst he
      have VN := Lib.hid (Mem.of_own ho)
      have VM' := Lib.hid (VM.out.below hq)
      clear ho VM
      have p1' := keep1 hq p1
      have p2' := keep1 hq p2
      have m' := MM.out.below hq
      have b' := Below.next hq BB.out BB.out.size
      clear p1 p2 MM BB hq
      have MM := Lib.hid m'
      have BB := Lib.hid b'
      clear m' b'
      have p1 := p1'
      have p2 := p2'
      clear p1' p2'
      go_wp2_with fail
      refine (sameInts_same _ _ _ _ V _ VM'.out VN.out hVb).mono ?_
      rintro e w' ⟨rfl, hq⟩
      have p1' := keep1 hq p1
      have p2' := keep1 hq p2
      have m' := MM.out.below hq
      have b' := Below.next hq BB.out BB.out.size
      clear p1 p2 MM BB hq
      have MM := Lib.hid m'
      have BB := Lib.hid b'
      clear m' b'
      have p1 := p1'
      have p2 := p2'
      clear p1' p2'
      go_wp2
      go_ret
      exact ⟨rfl, BB.out⟩
end Go.Proofs.Ytdipmjflgjlfeaa
