/-
  Contracts: ChartsOf of the program.
-/
import Derived.Test.YtbgbcajcajaocaaCos
namespace Go.Proofs.Ytbgbcajcajaocaa
open Go.RowKit Go.Sort Go.Lib

theorem al_no {S : List Sh} {k : Nat} {a : Sh} (ha : S[k]? = some a) (h : sBoth (rows0 S) k a = false) : alOk S = false := by
  rw [alOk, allI_no ha h (List.getElem?_eq_some_iff.1 ha).1, Bool.and_false]
theorem allI_all {α : Type} {f : Nat → α → Bool} {S : List α} (h : ∀ (i : Nat) (a : α), S[i]? = some a → f i a = true) : ∀ n, allI f S n = true
  | 0 => rfl
  | n + 1 => by
    rw [allI, allI_all h n]
    cases e : S[n]? with
    | none => rfl
    | some a => simp [h n a e]
theorem none_ch {w w' : World} {S : List Sh} (h : alOk S = false) (hb : Below w.heap.size w w') : RetCh w (coGV S) (coCV S) (coOk S) (.returned (.tuple #[.slice none 0 0, .slice none 0 0, .bool false])) w' := by
  have HV : coOk S = false := by rw [coOk, h]; rfl
  exact RetCh.none_ (by rw [coGV, HV]; rfl) (by rw [coCV, HV]; rfl) HV hb
/-- The charts of the first k rows. -/
def coTo (S : List Sh) (k : Nat) : List (List Sp) := staTo S S.length :: (List.range k).map fun q => colTo S q S.length
theorem own_hv {A : Option Addr} {c n : Nat} {L : List Sp} : (hv ⟨A, c, L⟩).ownBlock = (Value.slice A n c).ownBlock := by cases A <;> rfl
theorem coTo_succ (S : List Sh) (k : Nat) : coTo S (k + 1) = coTo S k ++ [colTo S k S.length] := by simp [coTo, List.range_succ]
theorem coTo_zero (S : List Sh) : coTo S 0 = [staTo S S.length] := rfl
theorem coTo_all (S : List Sh) : coTo S (rows0 S).length = coG S := rfl
theorem CI.start (w : World) : CI (((w.alloc (.cells #[] 26)).alloc (.cells #[.slice (some ⟨w.heap.size, 0, none⟩) 0 0] 59)).alloc (.cells #[] 3)) w.heap.size (.slice (some ⟨w.heap.size + 1, 0, none⟩) 1 1) 1 [⟨some ⟨w.heap.size, 0, none⟩, 0, []⟩] (.slice (some ⟨w.heap.size + 1 + 1, 0, none⟩) 0 0) [] := by
  have e1 : (w.alloc (.cells #[] 26)).heap.size = w.heap.size + 1 := by simp
  have e2 : ((w.alloc (.cells #[] 26)).alloc (.cells #[.slice (some ⟨w.heap.size, 0, none⟩) 0 0] 59)).heap.size = w.heap.size + 1 + 1 := by simp
  have hb := Blk.new (w.alloc (.cells #[] 26)) #[.slice (some ⟨w.heap.size, 0, none⟩) 0 0] 59
  rw [e1] at hb
  have ho : ((w.alloc (.cells #[] 26)).alloc (.cells #[.slice (some ⟨w.heap.size, 0, none⟩) 0 0] 59)).ownsRow w.heap.size 59 1 (.slice (some ⟨w.heap.size + 1, 0, none⟩) 1 1) 1 (hcs [⟨some ⟨w.heap.size, 0, none⟩, 0, ([] : List Sp)⟩]) :=
    ⟨rfl, .inr ⟨w.heap.size + 1, 1, _, rfl, by omega, hb, Nat.le_refl _, by unfold maxLen; omega, rfl, rfl⟩⟩
  refine ⟨rfl, ho.alloc _, fun k h e => ?_, fun i j h h' hij e1 e2 => ?_, ?_, fun b e => ?_⟩
  · match k, e with
    | 0, e =>
      obtain rfl := Option.some.inj e
      refine ⟨((own_empty (w := w) _ _ rfl (Nat.le_refl _) rfl).alloc _).alloc _, fun b hb => ?_⟩
      have e3 : w.heap.size = b := Option.some.inj hb
      subst e3
      exact ⟨fun e => (by have h9 : w.heap.size + 1 = w.heap.size := Option.some.inj e; omega), fun e => (by have h9 : w.heap.size + 1 + 1 = w.heap.size := Option.some.inj e; omega)⟩
    | k + 1, e => simp at e
  · match i, j, e1, e2, hij with
    | 0, 0, _, _, h => exact absurd rfl h
    | 0, j + 1, _, e2, _ => simp at e2
    | i + 1, _, e1, _, _ => simp at e1
  · exact own_empty _ _ e2.symm (by omega) rfl
  · have e3 : w.heap.size + 1 + 1 = b := Option.some.inj e
    subst e3
    exact fun e => (by have h9 : w.heap.size + 1 = w.heap.size + 1 + 1 := Option.some.inj e; omega)
set_option maxRecDepth 100000 in
set_option maxHeartbeats 12800000 in
theorem impl_ChartsOf_any (A : Option Addr) (c : Nat) (Ls : List Shd) (w : World) (hg : SGrid w A Ls) (hl : Ls.length ≤ 1048576) (hr : ∀ (k : Nat) (a : Shd), Ls[k]? = some a → a.h.L.length ≤ 1048576) : Calls Try.prog 21 #[.slice A Ls.length c] w (RetCh w (coGV (shv Ls)) (coCV (shv Ls)) (coOk (shv Ls))) := by
  obtain ⟨i0, hi, hz0, hz1, hz2⟩ := info_parts info_spotss
  obtain ⟨i1, hi1, hz01, hz11, hz21⟩ := info_parts info_spot
  obtain ⟨i2, hi2, hz02, hz12, hz22⟩ := info_parts info_int
  have HR := Lib.hid hr
  obtain ⟨S, hS⟩ : ∃ S, shv Ls = S := ⟨_, rfl⟩
  have HS := Lib.hid hS
  have HN := Lib.hid (show S.length = Ls.length by rw [← hS, shv_len])
  rw [hS]
  clear hS hr
  cases hn : inR Ls.length 1 12
  · have HNN := Lib.hid hn
    have HV := Lib.hid (show alOk S = false by rw [alOk, HN.out, hn]; rfl)
    clear hn
    go_enter Try.func21, Try.ntmps21
    go_wp2_with (go_at_call 46; refine (within_any _ _ _ _).mono ?_; rintro e w' ⟨he, rfl⟩; rw [HNN.out] at he; subst he)
    go_ret3
    exact none_ch HV.out (Below.refl _ _)
  have HNN := Lib.hid hn
  have hn12 := inR_iff.1 hn
  clear hn
  go_enter Try.func21, Try.ntmps21
  go_wp2_with (go_at_call 46; refine (within_any _ _ _ _).mono ?_; rintro e w' ⟨he, rfl⟩; rw [HNN.out] at he; subst he)
  go_loopw [22] (fun i wr => ∃ k : Nat, k ≤ Ls.length ∧ i = .int .i64 k ∧ Below w.heap.size w wr ∧ Hid (∀ (q : Nat) (x : Sh), q < k → S[q]? = some x → sOne (rows0 S) q x = true)) (fun i _ => Ls.length - (intOf i).toNat)
  case atStart => exact ⟨0, by omega, rfl, Below.refl _ _, Lib.hid (fun q x h => by omega)⟩
  case round =>
    obtain ⟨k, hk, rfl, hb, H⟩ := hrel
    by_cases hlt : k < Ls.length
    · obtain ⟨a, hh⟩ := some_of_lt hlt
      obtain ⟨a0, hh0⟩ := some_of_lt (L := Ls) (k := 0) (by omega)
      obtain ⟨b, off, rfl, c1, c2, c3, c4⟩ := (hg.below hb).mem.sheet hh
      obtain ⟨b', off', e', d1, d2, d3, d4⟩ := (hg.below hb).mem.sheet hh0
      obtain ⟨rfl, rfl⟩ : b = b' ∧ off = off' := by simpa using e'
      simp only [Nat.zero_mul, Nat.add_zero] at d4
      have HSA := Lib.hid (show S[k]? = some (a.p, a.s, a.h.L) by rw [← HS.out]; exact shv_at hh)
      have HR0 := Lib.hid (show rows0 S = a0.h.L by rw [← HS.out]; exact rows0_at (shv_at hh0))
      have hal8 := HR.out k a hh
      clear hh0 e' d1 d2 d3
      have hal := below_alloc wr (.cells #[.int .i64 a.p, .int .i64 a.s.x, .int .i64 a.s.y, .slice a.h.A a.h.L.length a.h.c] 29)
      have b0 : (wr.alloc (.cells #[.int .i64 a.p, .int .i64 a.s.x, .int .i64 a.s.y, .slice a.h.A a.h.L.length a.h.c] 29)).cell? ⟨wr.heap.size, 0, none⟩ = some (.int .i64 a.p) := by simp [go_sem]
      have b1 : (wr.alloc (.cells #[.int .i64 a.p, .int .i64 a.s.x, .int .i64 a.s.y, .slice a.h.A a.h.L.length a.h.c] 29)).cell? ⟨wr.heap.size, 1, none⟩ = some (.int .i64 a.s.x) := by simp [go_sem]
      have b2 : (wr.alloc (.cells #[.int .i64 a.p, .int .i64 a.s.x, .int .i64 a.s.y, .slice a.h.A a.h.L.length a.h.c] 29)).cell? ⟨wr.heap.size, 2, none⟩ = some (.int .i64 a.s.y) := by simp [go_sem]
      have b3 : (wr.alloc (.cells #[.int .i64 a.p, .int .i64 a.s.x, .int .i64 a.s.y, .slice a.h.A a.h.L.length a.h.c] 29)).cell? ⟨wr.heap.size, 3, none⟩ = some (.slice a.h.A a.h.L.length a.h.c) := by simp [go_sem]
      have h3 := keep1 hal d4
      have HM := Lib.hid (((hg.below hb).row k a hh).below hal)
      have hbw := Below.next hal hb hb.size
      clear d4
      cases hso : shOk a.p a.s a.h.L
      · have HSO := Lib.hid hso
        have HNO := Lib.hid (show sOne (rows0 S) k (a.p, a.s, a.h.L) = false by simp [sOne, hso])
        clear hso
        go_wp2_with fail
        generalize wr.alloc (.cells #[.int .i64 a.p, .int .i64 a.s.x, .int .i64 a.s.y, .slice a.h.A a.h.L.length a.h.c] 29) = W4 at *
        have k0_ := cell_regrown (w := W4) b0
        have k1_ := cell_regrown (w := W4) b1
        have k2_ := cell_regrown (w := W4) b2
        have k3_ := cell_regrown (w := W4) b3
        have k4_ := cell_regrown (w := W4) h3
        have C1 := Lib.hid (show ∀ dd os, Calls Try.prog 32 #[.agg #[.int .i64 a.p, .int .i64 a.s.x, .int .i64 a.s.y, .slice a.h.A a.h.L.length a.h.c]] (grow (redrawn W4 dd) os) (fun e w'' => e = .returned (.bool false) ∧ ∃ p : Regrown, w'' = grow (redrawn W4 p.d) p.os) from fun dd os => Calls.regrown_of ((IsSheet_any a.p a.s a.h.A a.h.c a.h.L _ (HM.out.below (below_regrown W4 dd os)) hal8).mono (by rintro e w' ⟨he, hb⟩; rw [HSO.out] at he; exact ⟨he, hb⟩)))
        refine wp_region_quiet_below (by kernel_rfl) (by kernel_rfl) ?_
        repeat (first | go_big_quiet_step (first | with_reducible exact C1.out _ _) | quiet_step (first | with_reducible exact C1.out _ _))
        refine wpQuiet_nil ?_
        intro _ hw'
        obtain ⟨⟨dq, osq⟩, hw''⟩ := hw'
        subst hw''
        have hbq := below_regrown W4 dq osq
        clear k0_ k1_ k2_ k3_ k4_ C1
        generalize hW2 : grow (redrawn W4 dq) osq = W5 at *
        clear hW2
        have hbF := Below.next hbq hbw hbw.size
        have HV := Lib.hid (al_no HSA.out (show sBoth (rows0 S) k _ = false by rw [sBoth, HNO.out]; rfl))
        go_wp2_with fail
        go_ret3
        exact none_ch HV.out hbF
      have HSO := Lib.hid hso
      by_cases hpk : a.p = (k : Int)
      case neg =>
        have HNO := Lib.hid (show sOne (rows0 S) k (a.p, a.s, a.h.L) = false by simp [sOne, hpk])
        have e1 : ((a.p : Int) != (k : Int)) = true := by simpa using hpk
        clear hso hpk
        go_wp2_with fail
        generalize wr.alloc (.cells #[.int .i64 a.p, .int .i64 a.s.x, .int .i64 a.s.y, .slice a.h.A a.h.L.length a.h.c] 29) = W4 at *
        have k0_ := cell_regrown (w := W4) b0
        have k1_ := cell_regrown (w := W4) b1
        have k2_ := cell_regrown (w := W4) b2
        have k3_ := cell_regrown (w := W4) b3
        have k4_ := cell_regrown (w := W4) h3
        have C1 := Lib.hid (show ∀ dd os, Calls Try.prog 32 #[.agg #[.int .i64 a.p, .int .i64 a.s.x, .int .i64 a.s.y, .slice a.h.A a.h.L.length a.h.c]] (grow (redrawn W4 dd) os) (fun e w'' => e = .returned (.bool true) ∧ ∃ p : Regrown, w'' = grow (redrawn W4 p.d) p.os) from fun dd os => Calls.regrown_of ((IsSheet_any a.p a.s a.h.A a.h.c a.h.L _ (HM.out.below (below_regrown W4 dd os)) hal8).mono (by rintro e w' ⟨he, hb⟩; rw [HSO.out] at he; exact ⟨he, hb⟩)))
        refine wp_region_quiet_below (by kernel_rfl) (by kernel_rfl) ?_
        repeat (first | go_big_quiet_step (first | with_reducible exact C1.out _ _) | quiet_step (first | with_reducible exact C1.out _ _))
        refine wpQuiet_nil ?_
        intro _ hw'
        obtain ⟨⟨dq, osq⟩, hw''⟩ := hw'
        subst hw''
        have hbq := below_regrown W4 dq osq
        clear k0_ k1_ k2_ k3_ k4_ C1
        generalize hW2 : grow (redrawn W4 dq) osq = W5 at *
        clear hW2
        have hbF := Below.next hbq hbw hbw.size
        have HV := Lib.hid (al_no HSA.out (show sBoth (rows0 S) k _ = false by rw [sBoth, HNO.out]; rfl))
        go_wp2_with fail
        go_ret3
        exact none_ch HV.out hbF
      by_cases hle : a.h.L.length = a0.h.L.length
      case neg =>
        have HNO := Lib.hid (show sOne (rows0 S) k (a.p, a.s, a.h.L) = false by simp [sOne, HR0.out, hle])
        have e1 : ((a.p : Int) != (k : Int)) = false := by simp [hpk]
        have e2 : ((a.h.L.length : Int) != (a0.h.L.length : Int)) = true := by simp; omega
        clear hso hpk hle
        go_wp2_with fail
        generalize wr.alloc (.cells #[.int .i64 a.p, .int .i64 a.s.x, .int .i64 a.s.y, .slice a.h.A a.h.L.length a.h.c] 29) = W4 at *
        have k0_ := cell_regrown (w := W4) b0
        have k1_ := cell_regrown (w := W4) b1
        have k2_ := cell_regrown (w := W4) b2
        have k3_ := cell_regrown (w := W4) b3
        have k4_ := cell_regrown (w := W4) h3
        have C1 := Lib.hid (show ∀ dd os, Calls Try.prog 32 #[.agg #[.int .i64 a.p, .int .i64 a.s.x, .int .i64 a.s.y, .slice a.h.A a.h.L.length a.h.c]] (grow (redrawn W4 dd) os) (fun e w'' => e = .returned (.bool true) ∧ ∃ p : Regrown, w'' = grow (redrawn W4 p.d) p.os) from fun dd os => Calls.regrown_of ((IsSheet_any a.p a.s a.h.A a.h.c a.h.L _ (HM.out.below (below_regrown W4 dd os)) hal8).mono (by rintro e w' ⟨he, hb⟩; rw [HSO.out] at he; exact ⟨he, hb⟩)))
        refine wp_region_quiet_below (by kernel_rfl) (by kernel_rfl) ?_
        repeat (first | go_big_quiet_step (first | with_reducible exact C1.out _ _) | quiet_step (first | with_reducible exact C1.out _ _))
        refine wpQuiet_nil ?_
        intro _ hw'
        obtain ⟨⟨dq, osq⟩, hw''⟩ := hw'
        subst hw''
        have hbq := below_regrown W4 dq osq
        clear k0_ k1_ k2_ k3_ k4_ C1
        generalize hW2 : grow (redrawn W4 dq) osq = W5 at *
        clear hW2
        have hbF := Below.next hbq hbw hbw.size
        have HV := Lib.hid (al_no HSA.out (show sBoth (rows0 S) k _ = false by rw [sBoth, HNO.out]; rfl))
        go_wp2_with fail
        go_ret3
        exact none_ch HV.out hbF
      have HYES := Lib.hid (show sOne (rows0 S) k (a.p, a.s, a.h.L) = true by have h := HSO.out; rw [hpk] at h; simp [sOne, hpk, HR0.out, hle, h])
      have e1 : ((a.p : Int) != (k : Int)) = false := by simp [hpk]
      have e2 : ((a.h.L.length : Int) != (a0.h.L.length : Int)) = false := by simp; omega
      have HLE := Lib.hid hle
      clear hso hpk hle
      go_wp2_with fail
      generalize wr.alloc (.cells #[.int .i64 a.p, .int .i64 a.s.x, .int .i64 a.s.y, .slice a.h.A a.h.L.length a.h.c] 29) = W4 at *
      have k0_ := cell_regrown (w := W4) b0
      have k1_ := cell_regrown (w := W4) b1
      have k2_ := cell_regrown (w := W4) b2
      have k3_ := cell_regrown (w := W4) b3
      have k4_ := cell_regrown (w := W4) h3
      have C1 := Lib.hid (show ∀ dd os, Calls Try.prog 32 #[.agg #[.int .i64 a.p, .int .i64 a.s.x, .int .i64 a.s.y, .slice a.h.A a.h.L.length a.h.c]] (grow (redrawn W4 dd) os) (fun e w'' => e = .returned (.bool true) ∧ ∃ p : Regrown, w'' = grow (redrawn W4 p.d) p.os) from fun dd os => Calls.regrown_of ((IsSheet_any a.p a.s a.h.A a.h.c a.h.L _ (HM.out.below (below_regrown W4 dd os)) hal8).mono (by rintro e w' ⟨he, hb⟩; rw [HSO.out] at he; exact ⟨he, hb⟩)))
      refine wp_region_quiet_below (by kernel_rfl) (by kernel_rfl) ?_
      repeat (first | go_big_quiet_step (first | with_reducible exact C1.out _ _) | quiet_step (first | with_reducible exact C1.out _ _))
      refine wpQuiet_nil ?_
      intro _ hw'
      obtain ⟨⟨dq, osq⟩, hw''⟩ := hw'
      subst hw''
      have hbq := below_regrown W4 dq osq
      clear k0_ k1_ k2_ k3_ k4_ C1
      generalize hW2 : grow (redrawn W4 dq) osq = W5 at *
      clear hW2
      have b3' := keep1 hbq b3
      have h3' := keep1 hbq h3
      have hb5 := Below.next hbq hbw hbw.size
      clear b0 b1 b2 b3 h3 hbw hbq hal e1 e2 HM
      clear hh c1 c2 c3 c4 b3' h3'
      go_wp2_with fail
      go_roundw
      case rel =>
        refine ⟨k + 1, by omega, by go_num, hb5, Lib.hid (fun q x hq hx => ?_)⟩
        by_cases e : q = k
        · subst e
          rw [HSA.out] at hx
          obtain rfl := Option.some.inj hx
          exact HYES.out
        · exact H.out q x (by omega) hx
      case measure => simp [intOf]; omega
    · have HONE := Lib.hid (show ∀ (q : Nat) (x : Sh), S[q]? = some x → sOne (rows0 S) q x = true from fun q x hx => H.out q x (by have := (List.getElem?_eq_some_iff.1 hx).1; rw [HN.out] at this; omega) hx)
      obtain ⟨a0, hh0⟩ := some_of_lt (L := Ls) (k := 0) (by omega)
      have HH0 := Lib.hid hh0
      have HR0 := Lib.hid (show rows0 S = a0.h.L by rw [← HS.out]; exact rows0_at (shv_at hh0))
      have HLEN := Lib.hid (show ∀ (q : Nat) (x : Shd), Ls[q]? = some x → x.h.L.length = a0.h.L.length from fun q x hx => by
        have h1 := HONE.out q _ (by rw [← HS.out]; exact shv_at hx)
        rw [sOne, Bool.and_eq_true, decide_eq_true_eq, HR0.out] at h1
        exact h1.2)
      have hR8 : a0.h.L.length ≤ 8 := by
        have h1 := HONE.out 0 _ (by rw [← HS.out]; exact shv_at hh0)
        rw [sOne, Bool.and_eq_true, Bool.and_eq_true] at h1
        exact (shOk_iff.1 h1.1.1).2.2.1
      have HB1 := Lib.hid hb
      have hzw := hb.size
      have HG := Lib.hid hg
      have HC0 := Lib.hid (CI.start wr)
      have HW0 := Lib.hid (show Below wr.heap.size wr (((wr.alloc (.cells #[] 26)).alloc (.cells #[.slice (some ⟨wr.heap.size, 0, none⟩) 0 0] 59)).alloc (.cells #[] 3)) from (((Below.refl _ _).alloc (Nat.le_refl _) _).alloc (by simp) _).alloc (by simp; omega) _)
      obtain ⟨b, off, rfl, d1, d2, d3, d4⟩ := (hg.below hb).mem.sheet hh0
      simp only [Nat.zero_mul, Nat.add_zero] at d4
      have D4 := Lib.hid d4
      obtain ⟨w1, hw1⟩ : ∃ w1, w1 = wr := ⟨_, rfl⟩
      subst hw1
      clear hg hh0 hb H d1 d2 d3 d4
      go_wp2_with fail
      go_loopw [53] (fun i wr => ∃ (k : Nat) (hs : List (Hdr Sp)), k ≤ Ls.length ∧ i = .int .i64 k ∧ Hid (lns hs = [staTo S k]) ∧ Hid (CI wr w1.heap.size (.slice (some ⟨w1.heap.size + 1, 0, none⟩) 1 1) 1 hs (.slice (some ⟨w1.heap.size + 1 + 1, 0, none⟩) 0 0) []) ∧ Below w1.heap.size w1 wr) (fun i _ => Ls.length - (intOf i).toNat)
      case atStart => exact ⟨0, _, by omega, rfl, Lib.hid rfl, HC0, HW0.out⟩
      case round =>
        obtain ⟨k, hs, hk, rfl, HT, HC, hb⟩ := hrel
        clear HC0 HW0
        have hbz := hb.size
        have hbw := HB1.out.trans (hb.mono hzw)
        by_cases hlt : k < Ls.length
        · obtain ⟨a, hh⟩ := some_of_lt hlt
          obtain ⟨b', off', e', c1, c2, c3, c4⟩ := (HG.out.below hbw).mem.sheet hh
          obtain ⟨rfl, rfl⟩ : b = b' ∧ off = off' := by simpa using e'
          have HSA := Lib.hid (show S[k]? = some (a.p, a.s, a.h.L) by rw [← HS.out]; exact shv_at hh)
          obtain ⟨h0, hh0, hL0⟩ := lns_inv (hs := hs) (k := 0) (L := staTo S k) (by rw [HT.out]; rfl)
          have hlk : h0.L.length ≤ 12 := by rw [hL0, sta_len (by rw [HN.out]; omega)]; omega
          obtain ⟨go_, oo_, eo_, g1⟩ := hdr_cell HC.out.grid.mem hh0
          simp only [Option.some.injEq, Addr.mk.injEq, and_true] at eo_
          obtain ⟨rfl, rfl⟩ := eo_
          have HH := Lib.hid hh0
          have HL0 := Lib.hid hL0
          have hal := below_alloc wr (.cells #[.int .i64 a.p, .int .i64 a.s.x, .int .i64 a.s.y, .slice a.h.A a.h.L.length a.h.c] 29)
          have q1 : (wr.alloc (.cells #[.int .i64 a.p, .int .i64 a.s.x, .int .i64 a.s.y, .slice a.h.A a.h.L.length a.h.c] 29)).cell? ⟨wr.heap.size, 1, none⟩ = some (.int .i64 a.s.x) := by simp [go_sem]
          have q2 : (wr.alloc (.cells #[.int .i64 a.p, .int .i64 a.s.x, .int .i64 a.s.y, .slice a.h.A a.h.L.length a.h.c] 29)).cell? ⟨wr.heap.size, 2, none⟩ = some (.int .i64 a.s.y) := by simp [go_sem]
          have g2 := keep1 hal g1
          have HC4 := Lib.hid (HC.out.below hal)
          have HB4 := Lib.hid (Below.trans hb (hal.mono hbz))
          have hlg : w1.heap.size + 1 < wr.heap.size := (HC.out.own.lt _ rfl).2
          have hlw : wr.heap.size < (wr.alloc (.cells #[.int .i64 a.p, .int .i64 a.s.x, .int .i64 a.s.y, .slice a.h.A a.h.L.length a.h.c] 29)).heap.size := by simp
          clear hh hh0 e' g1 hL0
          go_wp2_with fail
          clear c1 c2 c3 c4
          generalize wr.alloc (.cells #[.int .i64 a.p, .int .i64 a.s.x, .int .i64 a.s.y, .slice a.h.A a.h.L.length a.h.c] 29) = W4 at *
          have HO4 := Lib.hid (own_drew (HC4.out.row 0 h0 HH.out).1)
          have hlg4 : w1.heap.size + 1 < W4.heap.size := by omega
          rw [Nat.add_zero] at g2
          clear hb hbw hal
          go_region_law
            ((refine step_append_keepE W4.drew _ rfl (.tmp 60) (.tmp 63) 59 rfl w1.heap.size 26 i1 (.agg #[.int .i64 0, .int .i64 0]) 2 16 Try.underlying59 hi1 hz01 hz11 hz21 rfl (by omega) _ _ _ rfl HO4.out #[.int .i64 a.s.x, .int .i64 a.s.y] 26 1 rfl rfl rfl rfl (by omega) (by omega) (by show w1.heap.size ≤ W4.heap.size; omega) ?_; intro v' w6 hown' hb6 hkeep hsz6; obtain ⟨A6, q6, rfl⟩ := own_form hown'; have HK6 := Lib.hid hkeep; have kb1 := (hkeep (w1.heap.size + 1) (by show w1.heap.size + 1 < W4.heap.size; omega) (fun e => ((HC4.out.row 0 h0 HH.out).2 _ e).1 rfl)).1; have ho6 := own_same (w' := w6) HC4.out.own (fun g hg => by have e : w1.heap.size + 1 = g := Option.some.inj hg; subst e; exact kb1); have f6 := ho6.frozenAt 0; have c6 := (ho6.cellAt 0 (by omega)).trans (hcs_get HH.out); have HCG := Lib.hid (HC4.out.grow (s := a.s) HH.out hown' hkeep); clear hkeep ho6 kb1))
          all_goals
            have HTN := Lib.hid (show lns (hs.set 0 ⟨A6, q6, h0.L ++ [a.s]⟩) = [staTo S (k + 1)] by rw [lns_set, HT.out, HL0.out]; show [staTo S k ++ [a.s]] = _; rw [← sta_succ HSA.out])
            have HBN := Lib.hid (show Below w1.heap.size w1 (w6.setCell ⟨w1.heap.size + 1, 0, none⟩ (.slice A6 (h0.L.length + 1) q6)) from ((HB4.out.drew).trans hb6).setCell (by (try dsimp only); omega) _)
            clear f6 c6 HK6 hb6 hsz6 g2 q1 q2
            go_wp2_with fail
            go_roundw
            case rel => exact ⟨k + 1, _, by omega, by go_num, HTN, HCG, HBN.out⟩
            case measure => simp [intOf]; omega
        · have HT0 := Lib.hid (show lns hs = coTo S 0 by rw [HT.out, coTo_zero, show k = S.length by rw [HN.out]; omega])
          have HM0 := Lib.hid ((HG.out.below hbw).row 0 a0 HH0.out)
          have d4 := keep1 hb D4.out
          have HB0 := Lib.hid hb
          have hlg : w1.heap.size + 1 < wr.heap.size := (HC.out.own.lt _ rfl).2
          clear hb hbw HT
          go_wp2_with fail
          clear d4
          go_loopw [7, 8, 72] (fun vo vi i wr => ∃ (k : Nat) (hs : List (Hdr Sp)), k ≤ a0.h.L.length ∧ i = .int .i64 k ∧ Hid (lns hs = coTo S k) ∧ Hid (CI wr w1.heap.size vo (k + 1) hs vi ((a0.h.L.take k).map Rw.c)) ∧ Hid (∀ (q j : Nat) (x : Sh), q < k → S[j]? = some x → (x.2.2.getD q rz).c = ((rows0 S).getD q rz).c) ∧ Below w1.heap.size w1 wr) (fun _ _ i _ => a0.h.L.length - (intOf i).toNat)
          case atStart => exact ⟨0, hs, by omega, rfl, HT0, HC, Lib.hid (fun q j x h => by omega), HB0.out⟩
          case round =>
            obtain ⟨k, hs, hk, rfl, HT, HC, HEQ, hb⟩ := hrel
            clear HT0 HB0
            have hbz := hb.size
            have hbw := HB1.out.trans (hb.mono hzw)
            by_cases hlt : k < a0.h.L.length
            · obtain ⟨r, hr⟩ := some_of_lt hlt
              obtain ⟨ba, oa, ea, r1, r2, r3⟩ := ((HG.out.below hbw).row 0 a0 HH0.out).row hr
              have HRR := Lib.hid (show (rows0 S)[k]? = some r by rw [HR0.out]; exact hr)
              have HTK := Lib.hid (show (a0.h.L.take (k + 1)).map Rw.c = (a0.h.L.take k).map Rw.c ++ [r.c] by rw [List.take_add_one, hr]; simp)
              have hlj : ((a0.h.L.take k).map Rw.c).length ≤ 8 := by simp; omega
              have hal := (below_alloc wr (.cells #[.int .i64 r.c, .int .i64 r.t.x, .int .i64 r.t.y] 83))
              have HBX := Lib.hid (show Blk ((wr.alloc (.cells #[.int .i64 r.c, .int .i64 r.t.x, .int .i64 r.t.y] 83)).alloc (.cells #[] 26)) wr.heap.size #[.int .i64 r.c, .int .i64 r.t.x, .int .i64 r.t.y] 83 from (Blk.new wr _ _).alloc _)
              have HA2 := Lib.hid (show Below wr.heap.size wr ((wr.alloc (.cells #[.int .i64 r.c, .int .i64 r.t.x, .int .i64 r.t.y] 83)).alloc (.cells #[] 26)) from hal.alloc (by simp) _)
              have HOE := Lib.hid (show ((wr.alloc (.cells #[.int .i64 r.c, .int .i64 r.t.x, .int .i64 r.t.y] 83)).alloc (.cells #[] 26)).ownsRow (wr.heap.size + 1) 26 2 (.slice (some ⟨wr.heap.size + 1, 0, none⟩) 0 0) 0 (spots (colTo S k 0)) from own_empty _ _ (by simp) (Nat.le_refl _) rfl)
              rw [ea]
              clear hr ea
              go_wp2_with fail
              clear r1 r2 r3 hal
              obtain ⟨w4, hw4⟩ : ∃ w4, w4 = wr := ⟨_, rfl⟩
              subst hw4
              go_loopw [13, 80] (fun v i wr => ∃ j : Nat, j ≤ Ls.length ∧ i = .int .i64 j ∧ wr.ownsRow (w4.heap.size + 1) 26 2 v j (spots (colTo S k j)) ∧ Hid (∀ (q : Nat) (x : Sh), q < j → S[q]? = some x → (x.2.2.getD k rz).c = r.c) ∧ Hid (Blk wr w4.heap.size #[.int .i64 r.c, .int .i64 r.t.x, .int .i64 r.t.y] 83) ∧ Below w4.heap.size w4 wr) (fun _ i _ => Ls.length - (intOf i).toNat)
              case atStart => exact ⟨0, by omega, rfl, HOE.out, Lib.hid (fun q x h => by omega), HBX, HA2.out⟩
              case round =>
                obtain ⟨j, hj, rfl, hown, HJ, HX, hb5⟩ := hrel
                clear HBX HA2 HOE
                have hbz5 := hb5.size
                have hxl := HX.out.lt
                have hbw5 := hbw.trans (hb5.mono (by have := HB1.out.size; omega))
                by_cases hjl : j < Ls.length
                · obtain ⟨a, hh⟩ := some_of_lt hjl
                  obtain ⟨b', off', e', c1, c2, c3, c4⟩ := (HG.out.below hbw5).mem.sheet hh
                  obtain ⟨rfl, rfl⟩ : b = b' ∧ off = off' := by simpa using e'
                  have HSA := Lib.hid (show S[j]? = some (a.p, a.s, a.h.L) by rw [← HS.out]; exact shv_at hh)
                  have hka : k < a.h.L.length := by have := HLEN.out j a hh; omega
                  obtain ⟨s, hs_⟩ := some_of_lt hka
                  obtain ⟨bs, os, es, s1, s2, s3⟩ := ((HG.out.below hbw5).row j a hh).row hs_
                  rw [es] at c4
                  have HSS := Lib.hid hs_
                  have hal := below_alloc wr (.cells #[.int .i64 a.p, .int .i64 a.s.x, .int .i64 a.s.y, .slice (some ⟨bs, os, none⟩) a.h.L.length a.h.c] 29)
                  have q3 : (wr.alloc (.cells #[.int .i64 a.p, .int .i64 a.s.x, .int .i64 a.s.y, .slice (some ⟨bs, os, none⟩) a.h.L.length a.h.c] 29)).cell? ⟨wr.heap.size, 3, none⟩ = some (.slice (some ⟨bs, os, none⟩) a.h.L.length a.h.c) := by simp [go_sem]
                  have g1 := keep1 hal s1
                  have g2 := keep1 hal s2
                  have g3 := keep1 hal s3
                  have gx := keep1 hal ((HX.out.cell 0).trans (show _ = some (Value.int .i64 r.c) from rfl))
                  have HO5 := Lib.hid (own_below hown hal)
                  have HX5 := Lib.hid (HX.out.below hal HX.out.lt)
                  have HB5 := Lib.hid (hb5.trans (hal.mono hbz5))
                  have hlw : wr.heap.size < (wr.alloc (.cells #[.int .i64 a.p, .int .i64 a.s.x, .int .i64 a.s.y, .slice (some ⟨bs, os, none⟩) a.h.L.length a.h.c] 29)).heap.size := by simp
                  clear hh e' hs_ s1 s2 s3 es hown
                  by_cases hc : s.c = r.c
                  case neg =>
                    have e3 : ((s.c : Int) != r.c) = true := by simpa using hc
                    have HNO := Lib.hid (al_no HSA.out (show sBoth (rows0 S) j (a.p, a.s, a.h.L) = false by rw [sBoth, show (a.p, a.s, a.h.L).2.2 = a.h.L from rfl, cnTo_no HRR.out HSS.out hc (rows0 S).length (by rw [HR0.out]; omega), Bool.and_false]))
                    clear hc
                    go_wp2_with fail
                    clear c1 c2 c3 c4
                    generalize wr.alloc (.cells #[.int .i64 a.p, .int .i64 a.s.x, .int .i64 a.s.y, .slice (some ⟨bs, os, none⟩) a.h.L.length a.h.c] 29) = W7 at *
                    have k0_ := cell_regrown (w := W7) q3
                    have k1_ := cell_regrown (w := W7) g1
                    have k2_ := cell_regrown (w := W7) gx
                    refine wp_region_quiet_below (by kernel_rfl) (by kernel_rfl) ?_
                    repeat (first | go_big_quiet_step (fail) | quiet_step (fail))
                    refine wpQuiet_nil ?_
                    intro _ hw'
                    obtain ⟨⟨dq, osq⟩, hw''⟩ := hw'
                    subst hw''
                    have hbq := below_regrown W7 dq osq
                    clear k0_ k1_ k2_
                    generalize hW2 : grow (redrawn W7 dq) osq = W8 at *
                    clear hW2
                    have hbF := HB1.out.trans ((hb.trans ((Below.next hbq HB5.out HB5.out.size).mono hbz)).mono hzw)
                    go_wp2_with fail
                    go_ret3
                    exact none_ch HNO.out hbF
                  have e3 : ((s.c : Int) != r.c) = false := by simp [hc]
                  have HCE := Lib.hid hc
                  clear hc
                  go_wp2_with fail
                  clear c1 c2 c3 c4
                  generalize wr.alloc (.cells #[.int .i64 a.p, .int .i64 a.s.x, .int .i64 a.s.y, .slice (some ⟨bs, os, none⟩) a.h.L.length a.h.c] 29) = W7 at *
                  have k0_ := cell_regrown (w := W7) q3
                  have k1_ := cell_regrown (w := W7) g1
                  have k2_ := cell_regrown (w := W7) gx
                  refine wp_region_quiet_below (by kernel_rfl) (by kernel_rfl) ?_
                  repeat (first | go_big_quiet_step (fail) | quiet_step (fail))
                  refine wpQuiet_nil ?_
                  intro _ hw'
                  obtain ⟨⟨dq, osq⟩, hw''⟩ := hw'
                  subst hw''
                  have hbq := below_regrown W7 dq osq
                  clear k0_ k1_ k2_
                  generalize hW2 : grow (redrawn W7 dq) osq = W8 at *
                  clear hW2
                  have q3' := keep1 hbq q3
                  have g2' := keep1 hbq g2
                  have g3' := keep1 hbq g3
                  have HO8 := Lib.hid (own_below HO5.out hbq)
                  have HX8 := Lib.hid (HX5.out.below hbq HX5.out.lt)
                  have HB8 := Lib.hid (Below.next hbq HB5.out HB5.out.size)
                  have hz8 := hbq.size
                  clear q3 g1 g2 g3 gx hbq e3
                  go_wp2_with (at_builtin; (refine wpList_append_keep _ rfl (.tmp 93) (.tmp 100) 59 rfl (w4.heap.size + 1) 26 i1 (.agg #[.int .i64 0, .int .i64 0]) 2 16 Try.underlying59 hi1 hz01 hz11 hz21 rfl (by omega) _ _ _ rfl HO8.out _ _ _ (congrArg (fun g => Value.slice (some ⟨g, 0, none⟩) 1 1) (by simp)) rfl rfl (by omega) (by omega) (by omega) ?_; intro v' w9 hown' hb9 hkeep hsz9; have HX9 := Lib.hid (show Blk w9 w4.heap.size #[.int .i64 r.c, .int .i64 r.t.x, .int .i64 r.t.y] 83 from (hkeep w4.heap.size (by omega) (fun e => by have := (HO8.out.lt _ e).1; omega)).1.trans HX8.out); have HB9 := Lib.hid (HB8.out.trans (hb9.mono (by omega))); have HOW := Lib.hid hown'; clear hkeep hown'))
                  go_roundw
                  case rel =>
                    refine ⟨j + 1, by omega, by go_num, by rw [col_succ HSA.out HSS.out, spots_snoc]; exact HOW.out, Lib.hid (fun q x hq hx => ?_), HX9, HB9.out⟩
                    by_cases e : q = j
                    · subst e
                      rw [HSA.out] at hx
                      obtain rfl := Option.some.inj hx
                      simp only [List.getD, HSS.out, Option.getD_some]
                      exact HCE.out
                    · exact HJ.out q x (by omega) hx
                  case measure => simp [intOf]; omega
                · obtain ⟨Av, cv, rfl⟩ := own_form hown
                  have hcl : (colTo S k j).length = j := col_len (by rw [HN.out]; omega)
                  have e9 : j = S.length := by rw [HN.out]; omega
                  have HJE := Lib.hid e9
                  have HCL := Lib.hid hcl
                  have HC5 := Lib.hid (HC.out.below hb5)
                  have HEN := Lib.hid (show ∀ (q j : Nat) (x : Sh), q < k + 1 → S[j]? = some x → (x.2.2.getD q rz).c = ((rows0 S).getD q rz).c from fun q j' x hq hx => by
                    by_cases e : q = k
                    · subst e
                      rw [HJ.out j' x (by rw [HJE.out]; exact (List.getElem?_eq_some_iff.1 hx).1) hx]
                      simp [List.getD, HRR.out]
                    · exact HEQ.out q j' x (by omega) hx)
                  have HTN := Lib.hid (show lns (hs ++ [⟨Av, cv, colTo S k j⟩]) = coTo S (k + 1) by rw [coTo_succ, lns, List.map_append, ← lns, HT.out, ← HJE.out]; rfl)
                  have HBN := Lib.hid (hb.trans (hb5.mono hbz))
                  have HCW := Lib.hid (show ∀ b : Nat, (hv ⟨Av, cv, colTo S k j⟩).ownBlock = some b → w4.heap.size + 1 ≤ b from fun b e => (hown.lt b (by rw [own_hv (n := j)] at e; exact e)).1)
                  have HOW := Lib.hid (show wr.ownsRow w1.heap.size 26 2 (.slice Av (colTo S k j).length cv) (colTo S k j).length (spots (colTo S k j)) by rw [hcl]; exact own_base hown (by omega))
                  have HHL := Lib.hid (show hs.length = k + 1 from HC5.out.len)
                  have hal := below_alloc wr (.cells #[.slice Av j cv] 59)
                  clear hown hcl e9
                  go_wp2_with (first | (at_builtin; (refine wpList_append_keep _ rfl (.tmp 103) (.tmp 105) 32 rfl w1.heap.size 59 i0 (.slice none 0 0) 1 24 Try.underlying32 hi hz0 hz1 hz2 rfl (by omega) _ _ _ rfl HC5.out.own _ _ _ (congrArg (fun g => Value.slice (some ⟨g, 0, none⟩) 1 1) (by simp)) rfl rfl (by omega) (by omega) (by omega) ?_; intro v' w9 hown' hb9 hkeep hsz9; have HC9 := Lib.hid (HC5.out.chart (x := ⟨Av, cv, colTo S k j⟩) HOW.out (fun b hb => ⟨fun e => (by have := (HC.out.own.lt _ e).2; have := HCW.out b hb; omega), fun e => (by have := (HC.out.ints_.lt _ e).2; have := HCW.out b hb; omega), fun q h hq e => (by have := ((HC.out.row q h hq).1.lt _ e).2; have := HCW.out b hb; omega)⟩) (by rw [HCL.out]; exact hown') hkeep); have HX9 := Lib.hid (show Blk w9 w4.heap.size #[.int .i64 r.c, .int .i64 r.t.x, .int .i64 r.t.y] 83 from (hkeep w4.heap.size (by omega) (fun e => (by have := (HC.out.own.lt _ e).2; omega))).1.trans HX.out); have x9 : w9.cell? ⟨w4.heap.size, 0, none⟩ = some (.int .i64 r.c) := (HX9.out.cell 0).trans rfl; have HB9 := Lib.hid (HBN.out.trans hb9); have hlw9 : w1.heap.size ≤ w9.heap.size := HB9.out.size; clear hkeep hown')) | (at_builtin; (refine wpList_append_keep _ rfl (.tmp 107) (.tmp 110) 23 rfl w1.heap.size 3 i2 (.int .i64 0) 1 8 Try.underlying23 hi2 hz02 hz12 hz22 rfl (by omega) _ _ _ rfl HC9.out.ints_ _ _ _ (congrArg (fun g => Value.slice (some ⟨g, 0, none⟩) 1 1) (by simp)) rfl rfl (by omega) (by omega) (by omega) ?_; intro v'' w10 hown'' hb10 hkeep'' hsz10; have HCN := Lib.hid (HC9.out.count hown'' hkeep''); have HB10 := Lib.hid (HB9.out.trans hb10); clear hkeep'' hown'')))
                  go_roundw
                  case rel => exact ⟨k + 1, _, by omega, by go_num, HTN, Lib.hid (by rw [HTK.out]; exact HCN.out), HEN, HB10.out⟩
                  case measure => simp [intOf]; omega
            · have hkR : k = a0.h.L.length := by omega
              have HTF := Lib.hid (show lns hs = coG S by rw [HT.out, hkR, ← HR0.out, coTo_all])
              have HAL := Lib.hid (show alOk S = true from alOk_iff.2 ⟨by rw [HN.out]; omega, allI_all (fun q x hx => by rw [sBoth, HONE.out q x hx, Bool.true_and]; exact cnTo_all _ (fun k' hk' => HEQ.out k' q x (by rw [hkR, ← HR0.out]; exact hk') hx)) _⟩)
              have e9 : (a0.h.L.take k).map Rw.c = coC S := by rw [List.take_of_length_le (by omega), coC, HR0.out]
              rw [e9] at HC
              have hcl2 : (coC S).length ≤ 8 := by rw [coC_len, HR0.out]; exact hR8
              obtain ⟨Ao, co, rfl⟩ := own_form HC.out.own
              obtain ⟨Bv, dv, rfl⟩ := own_form HC.out.ints_
              have HGL := Lib.hid (show hs.length = k + 1 from HC.out.len)
              have HGN := Lib.hid (show (coG S).length = k + 1 by rw [coG_len, HR0.out, hkR])
              have HRW := Lib.hid (show ∀ (q : Nat) (h : Hdr Sp), hs[q]? = some h → h.L.length ≤ 1048576 ∧ h.L.length ≤ h.c from fun q h hq => ⟨by
                have e := lns_at hq
                rw [HTF.out] at e
                rw [coG_rows e, HN.out]; omega, HC.out.cap hq⟩)
              have HB9 := Lib.hid hb
              clear e9 hb hkR hbw
              go_wp2_with fail
              have hct := areCharts_any Ao co hs Bv dv (coC S) _ HC.out.grid (Mem.of_own HC.out.ints_) (by rw [HGL.out]; omega) (by omega) HRW.out
              rw [HGL.out, HTF.out] at hct
              refine hct.mono ?_
              clear hct
              rintro e w2 ⟨he, hq2⟩
              have HC4 := Lib.hid (HC.out.below hq2)
              have HB4 := Lib.hid (HB1.out.trans ((Below.next hq2 HB9.out HB9.out.size).mono hzw))
              cases hac : acOk (coG S) (coC S)
              · rw [hac] at he
                subst he
                have HV := Lib.hid (show coOk S = false by rw [coOk, hac, Bool.and_false])
                go_wp2_with fail
                go_ret3
                exact RetCh.none_ (by rw [coGV, HV.out]; rfl) (by rw [coCV, HV.out]; rfl) HV.out HB4.out
              · rw [hac] at he
                subst he
                have HV := Lib.hid (show coOk S = true by rw [coOk, hac, HAL.out]; rfl)
                go_wp2_with fail
                go_ret3
                rw [show coGV S = coG S by rw [coGV, HV.out]; rfl, show coCV S = coC S by rw [coCV, HV.out]; rfl, HV.out]
                refine ⟨Ao, co, hs, Bv, dv, by rw [HGN.out]; rfl, HTF.out, ?_, HB4.out⟩
                rw [HGN.out]
                exact HC4.out.base_ hzw
end Go.Proofs.Ytbgbcajcajaocaa
