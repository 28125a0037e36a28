/-
  Contracts: sheets of all performers; ChartsOf of the reference.
-/
import Derived.Test.YtbgbcajcajaocaaCog
import Derived.Test.YtbgbcajcajaocaaApp
import Derived.Deep.RegionLaw
import Derived.Deep.QuietTactic
import Derived.BigQuiet
namespace Go.Proofs.Ytbgbcajcajaocaa
open Go.RowKit Go.Sort Go.Lib

theorem shv_get {L : List Shd} {k : Nat} {a : Sh} (h : (shv L)[k]? = some a) : ∃ x, L[k]? = some x ∧ a = (x.p, x.s, x.h.L) := by
  simp [shv] at h
  obtain ⟨x, h1, h2⟩ := h
  exact ⟨x, h1, h2.symm⟩
/-- Charts and counts handed back, in memory of the call's own. -/
def RetCh (w : World) (G : List (List Sp)) (C : List Int) (ok : Bool) (e : Ending) (w' : World) : Prop :=
  ∃ A c hs B d, e = .returned (.tuple #[.slice A G.length c, .slice B C.length d, .bool ok]) ∧ lns hs = G ∧ CI w' w.heap.size (.slice A G.length c) G.length hs (.slice B C.length d) C ∧ Below w.heap.size w w'
theorem CI.nil (w : World) (base : Nat) : CI w base (.slice none 0 0) 0 [] (.slice none 0 0) [] :=
  ⟨rfl, World.ownsRow_nil _ _ _ _, fun k h e => by simp at e, fun i j h h' _ e => by simp at e, World.ownsRow_nil _ _ _ _, fun b e => by simp [Value.ownBlock] at e⟩
theorem RetCh.none_ {w w' : World} {G : List (List Sp)} {C : List Int} {ok : Bool} (hG : G = []) (hC : C = []) (hok : ok = false) (hb : Below w.heap.size w w') : RetCh w G C ok (.returned (.tuple #[.slice none 0 0, .slice none 0 0, .bool false])) w' := by
  subst hG hC hok
  exact ⟨none, 0, [], none, 0, rfl, rfl, CI.nil _ _, hb⟩
set_option maxRecDepth 100000 in
set_option maxHeartbeats 6400000 in
theorem shAlike_any (A : Option Addr) (c : Nat) (Ls : List Shd) (w : World) (hg : SGrid w A Ls) (hl : Ls.length ≤ 1048576) (hr : ∀ (k : Nat) (a : Shd), Ls[k]? = some a → a.h.L.length ≤ 1048576) : Calls Try.prog 55 #[.slice A Ls.length c] w fun e w' => e = .returned (.bool (alOk (shv Ls))) ∧ Below w.heap.size w w' := by
  have HR := Lib.hid hr
  obtain ⟨S, hS⟩ : ∃ S, shv Ls = S := ⟨_, rfl⟩
  have HS := Lib.hid hS
  have HN := Lib.hid (show S.length = Ls.length by rw [← hS, shv_len])
  rw [hS]
  have HE : Hid (alOk S = (inR Ls.length 1 12 && allI (sBoth (rows0 S)) S Ls.length)) := Lib.hid (by rw [alOk, HN.out])
  clear hr hS
  go_enter Try.func55, Try.ntmps55
  go_wp2
  go_loopw [9] (fun i wr => ∃ k : Nat, k ≤ Ls.length ∧ i = .int .i64 k ∧ Below w.heap.size w wr ∧ Hid (allI (sBoth (rows0 S)) S k = true)) (fun i _ => Ls.length - (intOf i).toNat)
  case atStart => exact ⟨0, by omega, rfl, Below.refl _ _, Lib.hid rfl⟩
  case round =>
    obtain ⟨k, hk, rfl, hb, H⟩ := hrel
    by_cases hlt : k < Ls.length
    · obtain ⟨a, hh⟩ := some_of_lt hlt
      obtain ⟨a0, hh0⟩ := some_of_lt (L := Ls) (k := 0) (by omega)
      obtain ⟨b, off, rfl, c1, c2, c3, c4⟩ := (hg.below hb).mem.sheet hh
      obtain ⟨b', off', e', d1, d2, d3, d4⟩ := (hg.below hb).mem.sheet hh0
      obtain ⟨rfl, rfl⟩ : b = b' ∧ off = off' := by simpa using e'
      simp only [Nat.zero_mul, Nat.add_zero] at d4
      have HSA := Lib.hid (show S[k]? = some (a.p, a.s, a.h.L) by rw [← HS.out]; exact shv_at hh)
      have HR0 := Lib.hid (show rows0 S = a0.h.L by rw [← HS.out]; exact rows0_at (shv_at hh0))
      have HM0 := Lib.hid ((hg.below hb).row 0 a0 hh0)
      have hal8 := HR.out k a hh
      have hal0 := HR.out 0 a0 hh0
      have HH0 := Lib.hid hh0
      clear hh0 e' d1 d2 d3
      have hal := below_alloc wr (.cells #[.int .i64 a.p, .int .i64 a.s.x, .int .i64 a.s.y, .slice a.h.A a.h.L.length a.h.c] 29)
      have b0 : (wr.alloc (.cells #[.int .i64 a.p, .int .i64 a.s.x, .int .i64 a.s.y, .slice a.h.A a.h.L.length a.h.c] 29)).cell? ⟨wr.heap.size, 0, none⟩ = some (.int .i64 a.p) := by simp [go_sem]
      have b1 : (wr.alloc (.cells #[.int .i64 a.p, .int .i64 a.s.x, .int .i64 a.s.y, .slice a.h.A a.h.L.length a.h.c] 29)).cell? ⟨wr.heap.size, 1, none⟩ = some (.int .i64 a.s.x) := by simp [go_sem]
      have b2 : (wr.alloc (.cells #[.int .i64 a.p, .int .i64 a.s.x, .int .i64 a.s.y, .slice a.h.A a.h.L.length a.h.c] 29)).cell? ⟨wr.heap.size, 2, none⟩ = some (.int .i64 a.s.y) := by simp [go_sem]
      have b3 : (wr.alloc (.cells #[.int .i64 a.p, .int .i64 a.s.x, .int .i64 a.s.y, .slice a.h.A a.h.L.length a.h.c] 29)).cell? ⟨wr.heap.size, 3, none⟩ = some (.slice a.h.A a.h.L.length a.h.c) := by simp [go_sem]
      have h3 := keep1 hal d4
      have HM := Lib.hid (((hg.below hb).row k a hh).below hal)
      have hbw := Below.next hal hb hb.size
      clear d4
      cases hso : shOk a.p a.s a.h.L
      · have HSO := Lib.hid hso
        have HNO := Lib.hid (show sOne (rows0 S) k (a.p, a.s, a.h.L) = false by simp [sOne, hso])
        clear hso
        go_wp2_with fail
        generalize wr.alloc (.cells #[.int .i64 a.p, .int .i64 a.s.x, .int .i64 a.s.y, .slice a.h.A a.h.L.length a.h.c] 29) = W4 at *
        have k0_ := cell_regrown (w := W4) b0
        have k1_ := cell_regrown (w := W4) b1
        have k2_ := cell_regrown (w := W4) b2
        have k3_ := cell_regrown (w := W4) b3
        have k4_ := cell_regrown (w := W4) h3
        have C1 := Lib.hid (show ∀ dd os, Calls Try.prog 68 #[.agg #[.int .i64 a.p, .int .i64 a.s.x, .int .i64 a.s.y, .slice a.h.A a.h.L.length a.h.c]] (grow (redrawn W4 dd) os) (fun e w'' => e = .returned (.bool false) ∧ ∃ p : Regrown, w'' = grow (redrawn W4 p.d) p.os) from fun dd os => Calls.regrown_of ((shGood_any a.p a.s a.h.A a.h.c a.h.L _ (HM.out.below (below_regrown W4 dd os)) hal8).mono (by rintro e w' ⟨he, hb⟩; rw [HSO.out] at he; exact ⟨he, hb⟩)))
        refine wp_region_quiet_below (by kernel_rfl) (by kernel_rfl) ?_
        repeat (first | go_big_quiet_step (first | with_reducible exact C1.out _ _) | quiet_step (first | with_reducible exact C1.out _ _))
        refine wpQuiet_nil ?_
        intro _ hw'
        obtain ⟨⟨dq, osq⟩, hw''⟩ := hw'
        subst hw''
        have hbq := below_regrown W4 dq osq
        clear k0_ k1_ k2_ k3_ k4_ C1
        generalize hW2 : grow (redrawn W4 dq) osq = W5 at *
        clear hW2
        go_wp2_with fail
        go_ret
        exact ⟨ret_bool (by rw [HE.out, allI_no HSA.out (show sBoth (rows0 S) k _ = false by rw [sBoth, HNO.out]; rfl) hlt]; simp), Below.next hbq hbw hbw.size⟩
      have HSO := Lib.hid hso
      by_cases hpk : a.p = (k : Int)
      case neg =>
        have HNO := Lib.hid (show sOne (rows0 S) k (a.p, a.s, a.h.L) = false by simp [sOne, hpk])
        have e1 : ((a.p : Int) != (k : Int)) = true := by simpa using hpk
        clear hso hpk
        go_wp2_with fail
        generalize wr.alloc (.cells #[.int .i64 a.p, .int .i64 a.s.x, .int .i64 a.s.y, .slice a.h.A a.h.L.length a.h.c] 29) = W4 at *
        have k0_ := cell_regrown (w := W4) b0
        have k1_ := cell_regrown (w := W4) b1
        have k2_ := cell_regrown (w := W4) b2
        have k3_ := cell_regrown (w := W4) b3
        have k4_ := cell_regrown (w := W4) h3
        have C1 := Lib.hid (show ∀ dd os, Calls Try.prog 68 #[.agg #[.int .i64 a.p, .int .i64 a.s.x, .int .i64 a.s.y, .slice a.h.A a.h.L.length a.h.c]] (grow (redrawn W4 dd) os) (fun e w'' => e = .returned (.bool true) ∧ ∃ p : Regrown, w'' = grow (redrawn W4 p.d) p.os) from fun dd os => Calls.regrown_of ((shGood_any a.p a.s a.h.A a.h.c a.h.L _ (HM.out.below (below_regrown W4 dd os)) hal8).mono (by rintro e w' ⟨he, hb⟩; rw [HSO.out] at he; exact ⟨he, hb⟩)))
        refine wp_region_quiet_below (by kernel_rfl) (by kernel_rfl) ?_
        repeat (first | go_big_quiet_step (first | with_reducible exact C1.out _ _) | quiet_step (first | with_reducible exact C1.out _ _))
        refine wpQuiet_nil ?_
        intro _ hw'
        obtain ⟨⟨dq, osq⟩, hw''⟩ := hw'
        subst hw''
        have hbq := below_regrown W4 dq osq
        clear k0_ k1_ k2_ k3_ k4_ C1
        generalize hW2 : grow (redrawn W4 dq) osq = W5 at *
        clear hW2
        go_wp2_with fail
        go_ret
        exact ⟨ret_bool (by rw [HE.out, allI_no HSA.out (show sBoth (rows0 S) k _ = false by rw [sBoth, HNO.out]; rfl) hlt]; simp), Below.next hbq hbw hbw.size⟩
      by_cases hle : a.h.L.length = a0.h.L.length
      case neg =>
        have HNO := Lib.hid (show sOne (rows0 S) k (a.p, a.s, a.h.L) = false by simp [sOne, HR0.out, hle])
        have e1 : ((a.p : Int) != (k : Int)) = false := by simp [hpk]
        have e2 : ((a.h.L.length : Int) != (a0.h.L.length : Int)) = true := by simp; omega
        clear hso hpk hle
        go_wp2_with fail
        generalize wr.alloc (.cells #[.int .i64 a.p, .int .i64 a.s.x, .int .i64 a.s.y, .slice a.h.A a.h.L.length a.h.c] 29) = W4 at *
        have k0_ := cell_regrown (w := W4) b0
        have k1_ := cell_regrown (w := W4) b1
        have k2_ := cell_regrown (w := W4) b2
        have k3_ := cell_regrown (w := W4) b3
        have k4_ := cell_regrown (w := W4) h3
        have C1 := Lib.hid (show ∀ dd os, Calls Try.prog 68 #[.agg #[.int .i64 a.p, .int .i64 a.s.x, .int .i64 a.s.y, .slice a.h.A a.h.L.length a.h.c]] (grow (redrawn W4 dd) os) (fun e w'' => e = .returned (.bool true) ∧ ∃ p : Regrown, w'' = grow (redrawn W4 p.d) p.os) from fun dd os => Calls.regrown_of ((shGood_any a.p a.s a.h.A a.h.c a.h.L _ (HM.out.below (below_regrown W4 dd os)) hal8).mono (by rintro e w' ⟨he, hb⟩; rw [HSO.out] at he; exact ⟨he, hb⟩)))
        refine wp_region_quiet_below (by kernel_rfl) (by kernel_rfl) ?_
        repeat (first | go_big_quiet_step (first | with_reducible exact C1.out _ _) | quiet_step (first | with_reducible exact C1.out _ _))
        refine wpQuiet_nil ?_
        intro _ hw'
        obtain ⟨⟨dq, osq⟩, hw''⟩ := hw'
        subst hw''
        have hbq := below_regrown W4 dq osq
        clear k0_ k1_ k2_ k3_ k4_ C1
        generalize hW2 : grow (redrawn W4 dq) osq = W5 at *
        clear hW2
        go_wp2_with fail
        go_ret
        exact ⟨ret_bool (by rw [HE.out, allI_no HSA.out (show sBoth (rows0 S) k _ = false by rw [sBoth, HNO.out]; rfl) hlt]; simp), Below.next hbq hbw hbw.size⟩
      have HYES := Lib.hid (show sOne (rows0 S) k (a.p, a.s, a.h.L) = true by have h := HSO.out; rw [hpk] at h; simp [sOne, hpk, HR0.out, hle, h])
      have e1 : ((a.p : Int) != (k : Int)) = false := by simp [hpk]
      have e2 : ((a.h.L.length : Int) != (a0.h.L.length : Int)) = false := by simp; omega
      have HLE := Lib.hid hle
      clear hso hpk hle
      go_wp2_with fail
      generalize wr.alloc (.cells #[.int .i64 a.p, .int .i64 a.s.x, .int .i64 a.s.y, .slice a.h.A a.h.L.length a.h.c] 29) = W4 at *
      have k0_ := cell_regrown (w := W4) b0
      have k1_ := cell_regrown (w := W4) b1
      have k2_ := cell_regrown (w := W4) b2
      have k3_ := cell_regrown (w := W4) b3
      have k4_ := cell_regrown (w := W4) h3
      have C1 := Lib.hid (show ∀ dd os, Calls Try.prog 68 #[.agg #[.int .i64 a.p, .int .i64 a.s.x, .int .i64 a.s.y, .slice a.h.A a.h.L.length a.h.c]] (grow (redrawn W4 dd) os) (fun e w'' => e = .returned (.bool true) ∧ ∃ p : Regrown, w'' = grow (redrawn W4 p.d) p.os) from fun dd os => Calls.regrown_of ((shGood_any a.p a.s a.h.A a.h.c a.h.L _ (HM.out.below (below_regrown W4 dd os)) hal8).mono (by rintro e w' ⟨he, hb⟩; rw [HSO.out] at he; exact ⟨he, hb⟩)))
      refine wp_region_quiet_below (by kernel_rfl) (by kernel_rfl) ?_
      repeat (first | go_big_quiet_step (first | with_reducible exact C1.out _ _) | quiet_step (first | with_reducible exact C1.out _ _))
      refine wpQuiet_nil ?_
      intro _ hw'
      obtain ⟨⟨dq, osq⟩, hw''⟩ := hw'
      subst hw''
      have hbq := below_regrown W4 dq osq
      clear k0_ k1_ k2_ k3_ k4_ C1
      generalize hW2 : grow (redrawn W4 dq) osq = W5 at *
      clear hW2
      have b3' := keep1 hbq b3
      have h3' := keep1 hbq h3
      have hb5 := Below.next hbq hbw hbw.size
      clear b0 b1 b2 b3 h3 hbw hbq hal e1 e2 HM
      have HMA := Lib.hid ((hg.below hb5).row k a hh)
      have HM5 := Lib.hid ((hg.below hb5).row 0 a0 HH0.out)
      have hz5 := hb5.size
      clear hh HM0 c1 c2 c3 c4
      go_wp2_with fail
      go_loopw [37] (fun i_ w6 => ∃ j : Nat, j ≤ a.h.L.length ∧ i_ = .int .i64 j ∧ Below W5.heap.size W5 w6 ∧ Hid (cnTo (rows0 S) a.h.L j = true)) (fun i_ _ => a.h.L.length - (intOf i_).toNat)
      case atStart => exact ⟨0, by omega, rfl, Below.refl _ _, Lib.hid rfl⟩
      case round =>
        obtain ⟨j, hj, rfl, hb6, HJ⟩ := hrel
        by_cases hjl : j < a.h.L.length
        · obtain ⟨r, hr⟩ := some_of_lt hjl
          obtain ⟨s, hs⟩ := some_of_lt (L := a0.h.L) (k := j) (by have := HLE.out; omega)
          obtain ⟨ba, oa, ea, r1, r2, r3⟩ := (HMA.out.below hb6).row hr
          obtain ⟨bs, os, es, s1, s2, s3⟩ := (HM5.out.below hb6).row hs
          have HRR := Lib.hid hr
          have HSS := Lib.hid (show (rows0 S)[j]? = some s by rw [HR0.out]; exact hs)
          have hjl0 : j < a0.h.L.length := by have := HLE.out; omega
          have h36 := keep1 hb6 h3'
          rw [es] at h36
          rw [ea]
          have hal6 := below_alloc wr (.cells #[.int .i64 r.c, .int .i64 r.t.x, .int .i64 r.t.y] 83)
          have q0 : (wr.alloc (.cells #[.int .i64 r.c, .int .i64 r.t.x, .int .i64 r.t.y] 83)).cell? ⟨wr.heap.size, 0, none⟩ = some (.int .i64 r.c) := by simp [go_sem]
          have q1 := keep1 hal6 h36
          have q2 := keep1 hal6 s1
          have hb66 := Below.next hal6 (hb5.trans (hb6.mono hz5)) (by have := hb6.size; omega)
          have hb67 := Below.next hal6 hb6 hb6.size
          clear hr hs h36 s1 s2 s3 es ea
          by_cases hc : r.c = s.c
          · have e3 : ((r.c : Int) != s.c) = false := by simp [hc]
            have HC := Lib.hid hc
            clear hc
            go_wp2_with fail
            generalize wr.alloc (.cells #[.int .i64 r.c, .int .i64 r.t.x, .int .i64 r.t.y] 83) = W7 at *
            clear r1 r2 r3 hal6
            have k0_ := cell_regrown (w := W7) q0
            have k1_ := cell_regrown (w := W7) q1
            have k2_ := cell_regrown (w := W7) q2
            refine wp_region_quiet_below (by kernel_rfl) (by kernel_rfl) ?_
            repeat (first | go_big_quiet_step (fail) | quiet_step (fail))
            refine wpQuiet_nil ?_
            intro _ hw'
            obtain ⟨⟨dq, osq⟩, hw''⟩ := hw'
            subst hw''
            have hbq := below_regrown W7 dq osq
            clear k0_ k1_ k2_
            generalize hW2 : grow (redrawn W7 dq) osq = W8 at *
            clear hW2
            have hb8 := Below.next hbq hb67 hb67.size
            go_wp2_with fail
            go_roundw
            case rel => exact ⟨j + 1, by omega, by go_num, hb8, Lib.hid (cnTo_yes HJ.out HSS.out HRR.out HC.out)⟩
            case measure => simp [intOf]; omega
          · have e3 : ((r.c : Int) != s.c) = true := by simpa using hc
            have HC := Lib.hid hc
            clear hc
            go_wp2_with fail
            generalize wr.alloc (.cells #[.int .i64 r.c, .int .i64 r.t.x, .int .i64 r.t.y] 83) = W7 at *
            clear r1 r2 r3 hal6
            have k0_ := cell_regrown (w := W7) q0
            have k1_ := cell_regrown (w := W7) q1
            have k2_ := cell_regrown (w := W7) q2
            refine wp_region_quiet_below (by kernel_rfl) (by kernel_rfl) ?_
            repeat (first | go_big_quiet_step (fail) | quiet_step (fail))
            refine wpQuiet_nil ?_
            intro _ hw'
            obtain ⟨⟨dq, osq⟩, hw''⟩ := hw'
            subst hw''
            have hbq := below_regrown W7 dq osq
            clear k0_ k1_ k2_
            generalize hW2 : grow (redrawn W7 dq) osq = W8 at *
            clear hW2
            have hb8 := Below.next hbq hb66 hb66.size
            have HNO := Lib.hid (show sBoth (rows0 S) k (a.p, a.s, a.h.L) = false by rw [sBoth, show (a.p, a.s, a.h.L).2.2 = a.h.L from rfl, cnTo_no HSS.out HRR.out HC.out (rows0 S).length (by rw [HR0.out]; omega)]; simp)
            go_wp2_with fail
            go_ret
            exact ⟨ret_bool (by rw [HE.out, allI_no HSA.out HNO.out hlt]; simp), hb8⟩
        · have HALL := Lib.hid (show sBoth (rows0 S) k (a.p, a.s, a.h.L) = true by
            have e : j = (rows0 S).length := by rw [HR0.out]; have := HLE.out; omega
            rw [sBoth, HYES.out, ← e]; exact HJ.out)
          have hb8 := hb5.trans (hb6.mono hz5)
          go_wp2_with fail
          go_roundw
          case rel => exact ⟨k + 1, by omega, by go_num, hb8, Lib.hid (allI_yes H.out HSA.out HALL.out)⟩
          case measure => simp [intOf]; omega
    · have e1 : k = Ls.length := by omega
      subst e1
      go_wp2_with (go_at_call 42; refine (l1In_any _ _ _ _).mono ?_; rintro e w' ⟨rfl, rfl⟩)
      go_ret
      exact ⟨ret_bool (by rw [HE.out, H.out, Bool.and_true]), hb⟩
/-- The state of the charts: m starts; the first j columns hold i + 1, the others i. -/
def stG (S : List Sh) (R m i j : Nat) : List (List Sp) := staTo S m :: (List.range R).map fun q => colTo S q (if q < j then i + 1 else i)
theorem stG_len (S : List Sh) (R m i j : Nat) : (stG S R m i j).length = R + 1 := by simp [stG]
theorem stG_zero (S : List Sh) (R m i j : Nat) : (stG S R m i j)[0]? = some (staTo S m) := rfl
theorem stG_at (S : List Sh) {R m i j q : Nat} (h : q < R) : (stG S R m i j)[q + 1]? = some (colTo S q (if q < j then i + 1 else i)) := by simp [stG, h]
theorem stG_start {S : List Sh} {R m i j : Nat} {a : Sh} (ha : S[m]? = some a) : (stG S R m i j).set 0 (staTo S m ++ [a.2.1]) = stG S R (m + 1) i j := by
  rw [← sta_succ ha]; simp [stG]
theorem stG_col {S : List Sh} {R m i j : Nat} {a : Sh} {r : Rw} (ha : S[i]? = some a) (hr : a.2.2[j]? = some r) (hj : j < R) : (stG S R m i j).set (j + 1) (colTo S j i ++ [r.t]) = stG S R m i (j + 1) := by
  rw [← col_succ ha hr, stG, stG, List.set_cons_succ]
  congr 1
  apply List.ext_getElem?
  intro q
  by_cases e : q = j
  · subst e
    rw [List.getElem?_set_self (by simpa using hj)]
    simp [hj]
  · rw [List.getElem?_set_ne (fun e2 => e e2.symm)]
    by_cases hq : q < R
    · simp only [List.getElem?_map, List.getElem?_range, hq, Option.map_some]
      congr 2
      by_cases h1 : q < j
      · rw [if_pos h1, if_pos (by omega)]
      · rw [if_neg h1, if_neg (by omega)]
    · rw [List.getElem?_eq_none (by simp; omega), List.getElem?_eq_none (by simp; omega)]
theorem stG_next (S : List Sh) (R m i : Nat) : stG S R m i R = stG S R m (i + 1) 0 := by
  unfold stG
  congr 1
  apply List.map_congr_left
  intro q hq
  rw [if_pos (List.mem_range.1 hq), if_neg (by omega)]
theorem stG_all (S : List Sh) : stG S (rows0 S).length S.length S.length 0 = coG S := by
  unfold stG coG
  simp
theorem stG_nil (S : List Sh) (R : Nat) : stG S R 0 0 0 = lns (List.replicate (R + 1) hz) := by
  rw [List.replicate_succ]
  simp [stG, lns, staTo, colTo, hz, List.map_const']
theorem lns_set (hs : List (Hdr Sp)) (k : Nat) (h : Hdr Sp) : lns (hs.set k h) = (lns hs).set k h.L := by simp [lns, List.map_set]
theorem CI.base_ {w : World} {base base' n : Nat} {vo vi : Value} {hs : List (Hdr Sp)} {C : List Int} (h : CI w base vo n hs vi C) (hb : base' ≤ base) : CI w base' vo n hs vi C :=
  ⟨h.len, own_base h.own hb, fun k x hx => ⟨own_base (h.row k x hx).1 hb, (h.row k x hx).2⟩, h.apart, own_base h.ints_ hb, h.ne⟩
theorem coG_rows {S : List Sh} {k : Nat} {L : List Sp} (h : (coG S)[k]? = some L) : L.length = S.length := by
  cases k with
  | zero => simp [coG] at h; subst h; exact sta_len (Nat.le_refl _)
  | succ k =>
    simp only [coG, List.getElem?_cons_succ, List.getElem?_map, Option.map_eq_some_iff] at h
    obtain ⟨q, _, rfl⟩ := h
    exact col_len (Nat.le_refl _)
theorem CI.made {w : World} {base g c n : Nat} (ho : w.ownsRow base 59 1 (.slice (some ⟨g, 0, none⟩) n c) n (hcs (List.replicate n hz))) : CI w base (.slice (some ⟨g, 0, none⟩) n c) n (List.replicate n hz) (.slice none 0 0) [] := by
  have hh : ∀ (k : Nat) (h : Hdr Sp), (List.replicate n hz)[k]? = some h → h = hz := fun k h e => List.eq_of_mem_replicate (List.mem_of_getElem? e)
  refine ⟨by simp, ho, fun k h e => ?_, fun i j h h' _ e1 _ b hb => ?_, World.ownsRow_nil _ _ _ _, fun b e => by simp [Value.ownBlock] at e⟩
  · obtain rfl := hh k h e
    exact ⟨World.ownsRow_nil _ _ _ _, fun b hb => by simp [hv, hz, Value.ownBlock] at hb⟩
  · obtain rfl := hh i h e1
    simp [hv, hz, Value.ownBlock] at hb
set_option maxRecDepth 100000 in
set_option maxHeartbeats 6400000 in
theorem spec_ChartsOf_any (A : Option Addr) (c : Nat) (Ls : List Shd) (w : World) (hg : SGrid w A Ls) (hl : Ls.length ≤ 1048576) (hr : ∀ (k : Nat) (a : Shd), Ls[k]? = some a → a.h.L.length ≤ 1048576) : Calls Try.prog 19 #[.slice A Ls.length c] w (RetCh w (coGV (shv Ls)) (coCV (shv Ls)) (coOk (shv Ls))) := by
  obtain ⟨i0, hi, hz0, hz1, hz2⟩ := info_parts info_spotss
  obtain ⟨i1, hi1, hz01, hz11, hz21⟩ := info_parts info_spot
  obtain ⟨i2, hi2, hz02, hz12, hz22⟩ := info_parts info_int
  obtain ⟨S, hS⟩ : ∃ S, shv Ls = S := ⟨_, rfl⟩
  have HS := Lib.hid hS
  have HN := Lib.hid (show S.length = Ls.length by rw [← hS, shv_len])
  have HG := Lib.hid hg
  rw [hS]
  clear hS hg
  cases hal : alOk S
  · have HAL := Lib.hid hal
    have HV := Lib.hid (show coOk S = false by rw [coOk, hal]; rfl)
    clear hal
    go_enter Try.func19, Try.ntmps19
    go_wp2_with fail
    refine (shAlike_any _ _ Ls _ HG.out hl hr).mono ?_
    rintro e w1 ⟨he, hq⟩
    rw [HS.out, HAL.out] at he
    subst he
    go_wp2_with fail
    go_ret3
    exact RetCh.none_ (by rw [coGV, HV.out]; rfl) (by rw [coCV, HV.out]; rfl) HV.out hq
  have HAL := Lib.hid hal
  have hn12 := (alOk_iff.1 hal).1
  rw [HN.out] at hn12
  have hR8 := al_rows hal
  have HSH := Lib.hid (fun (k : Nat) (a : Sh) h => al_sheet hal (k := k) (a := a) h)
  obtain ⟨a0, hh0⟩ := some_of_lt (L := Ls) (k := 0) (by omega)
  have HH0 := Lib.hid hh0
  have HR0 := Lib.hid (show rows0 S = a0.h.L by rw [← HS.out]; exact rows0_at (shv_at hh0))
  have hR0 : a0.h.L.length ≤ 8 := by rw [← HR0.out]; exact hR8
  clear hal hh0
  go_enter Try.func19, Try.ntmps19
  go_wp2_with fail
  refine (shAlike_any _ _ Ls _ HG.out hl hr).mono ?_
  rintro e w1 ⟨he, hq⟩
  rw [HS.out, HAL.out] at he
  subst he
  have hzw := hq.size
  have HB1 := Lib.hid hq
  obtain ⟨b, off, rfl, d1, d2, d3, d4⟩ := (HG.out.below hq).mem.sheet HH0.out
  simp only [Nat.zero_mul, Nat.add_zero] at d4
  clear d1 d2 d3 hq hr
  go_wp2_with (at_make; refine wpList_make_full _ rfl _ _ 32 rfl w1.heap.size 59 i0 (.slice none 0 0) 1 Try.underlying32 hi hz0 hz1 _ _ _ _ (a0.h.L.length + 1) rfl rfl rfl rfl ?b2 ?b3 (Nat.le_refl _) ?_)
  case b2 => rw [hz2]; omega
  case b3 => unfold maxLen; omega
  intro w0 hown0 hgrow0
  have hb0 := (HB1.out.trans ((grown_below hgrow0).mono hzw))
  have hgb := grown_below hgrow0
  have HC0 : Hid (CI w0 w1.heap.size (.slice (some ⟨w1.heap.size, 0, none⟩) (a0.h.L.length + 1) (a0.h.L.length + 1)) (a0.h.L.length + 1) (List.replicate (a0.h.L.length + 1) hz) (.slice none 0 0) []) := Lib.hid (CI.made (by rw [← hz_made, Nat.mul_one]; exact hown0))
  have HT0 := Lib.hid (stG_nil S a0.h.L.length).symm
  have D4 := Lib.hid d4
  clear hown0 d4 hgrow0
  go_wp2
  go_loopw [25] (fun i wr => ∃ (k : Nat) (hs : List (Hdr Sp)), k ≤ Ls.length ∧ i = .int .i64 k ∧ Hid (lns hs = stG S a0.h.L.length k k 0) ∧ Hid (CI wr w1.heap.size (.slice (some ⟨w1.heap.size, 0, none⟩) (a0.h.L.length + 1) (a0.h.L.length + 1)) (a0.h.L.length + 1) hs (.slice none 0 0) []) ∧ Below w1.heap.size w1 wr) (fun i _ => Ls.length - (intOf i).toNat)
  case atStart => exact ⟨0, _, by omega, rfl, HT0, HC0, hgb⟩
  case round =>
    obtain ⟨k, hs, hk, rfl, HT, HC, hb⟩ := hrel
    clear hb0 hgb HC0 HT0
    have hbz := hb.size
    have hbw := HB1.out.trans (hb.mono hzw)
    by_cases hlt : k < Ls.length
    · obtain ⟨a, hh⟩ := some_of_lt hlt
      obtain ⟨b', off', e', c1, c2, c3, c4⟩ := (HG.out.below hbw).mem.sheet hh
      obtain ⟨rfl, rfl⟩ : b = b' ∧ off = off' := by simpa using e'
      have HSA := Lib.hid (show S[k]? = some (a.p, a.s, a.h.L) by rw [← HS.out]; exact shv_at hh)
      have HLE := Lib.hid (show a.h.L.length = a0.h.L.length by rw [← HR0.out]; exact (HSH.out k _ HSA.out).2.1)
      have HM := Lib.hid ((HG.out.below hbw).row k a hh)
      have hal8 : a.h.L.length ≤ 8 := by have := HLE.out; omega
      obtain ⟨h0, hh0, hL0⟩ := lns_inv (hs := hs) (k := 0) (L := staTo S k) (by rw [HT.out]; exact stG_zero _ _ _ _ _)
      have hlk : h0.L.length ≤ 12 := by rw [hL0, sta_len (by rw [HN.out]; omega)]; omega
      obtain ⟨go_, oo_, eo_, g1⟩ := hdr_cell HC.out.grid.mem hh0
      simp only [Option.some.injEq, Addr.mk.injEq, and_true] at eo_
      obtain ⟨rfl, rfl⟩ := eo_
      have HHA := Lib.hid hh
      have HH := Lib.hid hh0
      have HL0 := Lib.hid hL0
      have hal := below_alloc wr (.cells #[.int .i64 a.p, .int .i64 a.s.x, .int .i64 a.s.y, .slice a.h.A a.h.L.length a.h.c] 29)
      have q1 : (wr.alloc (.cells #[.int .i64 a.p, .int .i64 a.s.x, .int .i64 a.s.y, .slice a.h.A a.h.L.length a.h.c] 29)).cell? ⟨wr.heap.size, 1, none⟩ = some (.int .i64 a.s.x) := by simp [go_sem]
      have q2 : (wr.alloc (.cells #[.int .i64 a.p, .int .i64 a.s.x, .int .i64 a.s.y, .slice a.h.A a.h.L.length a.h.c] 29)).cell? ⟨wr.heap.size, 2, none⟩ = some (.int .i64 a.s.y) := by simp [go_sem]
      have hbx : Bx (wr.alloc (.cells #[.int .i64 a.p, .int .i64 a.s.x, .int .i64 a.s.y, .slice a.h.A a.h.L.length a.h.c] 29)) wr.heap.size #[.int .i64 a.p, .int .i64 a.s.x, .int .i64 a.s.y, .slice a.h.A a.h.L.length a.h.c] 29 := ⟨Blk.new wr _ _⟩
      have g2 := keep1 hal g1
      have HC4 := Lib.hid (HC.out.below hal)
      have hb4 := Below.trans hb (hal.mono hbz)
      have hs4 : (wr.alloc (.cells #[.int .i64 a.p, .int .i64 a.s.x, .int .i64 a.s.y, .slice a.h.A a.h.L.length a.h.c] 29)).heap.size = wr.heap.size + 1 := by simp
      have hlw : wr.heap.size < (wr.alloc (.cells #[.int .i64 a.p, .int .i64 a.s.x, .int .i64 a.s.y, .slice a.h.A a.h.L.length a.h.c] 29)).heap.size := by omega
      have hlg : w1.heap.size < wr.heap.size := (HC.out.own.lt _ rfl).2
      clear hh hh0 e' g1 hL0 hs4
      go_wp2_with fail
      have HX4 := Lib.hid hbx
      clear hbx c1 c2 c3 c4
      generalize wr.alloc (.cells #[.int .i64 a.p, .int .i64 a.s.x, .int .i64 a.s.y, .slice a.h.A a.h.L.length a.h.c] 29) = W4 at *
      have HO4 := Lib.hid (own_drew (HC4.out.row 0 h0 HH.out).1)
      have hb4z := hb4.size
      have hlg4 : w1.heap.size < W4.heap.size := by omega
      rw [Nat.add_zero] at g2
      have HB4 := Lib.hid hb4
      have HBW := Lib.hid hbw
      clear hb hbw hb4 hal
      go_region_law
        ((refine step_append_keepE W4.drew _ rfl (.tmp 32) (.tmp 35) 59 rfl w1.heap.size 26 i1 (.agg #[.int .i64 0, .int .i64 0]) 2 16 Try.underlying59 hi1 hz01 hz11 hz21 rfl (by omega) _ _ _ rfl HO4.out #[.int .i64 a.s.x, .int .i64 a.s.y] 26 1 rfl rfl rfl rfl (by omega) (by omega) (by show w1.heap.size ≤ W4.heap.size; omega) ?_; intro v' w6 hown' hb6 hkeep hsz6; obtain ⟨A6, q6, rfl⟩ := own_form hown'; have HK6 := Lib.hid hkeep; have kb1 := (hkeep w1.heap.size (by show w1.heap.size < W4.heap.size; omega) (fun e => ((HC4.out.row 0 h0 HH.out).2 _ e).1 rfl)).1; have ho6 := own_same (w' := w6) HC4.out.own (fun g hg => by have e : w1.heap.size = g := Option.some.inj hg; subst e; exact kb1); have f6 := ho6.frozenAt 0; have c6 := (ho6.cellAt 0 (by omega)).trans (hcs_get HH.out); have HCG := Lib.hid (HC4.out.grow (s := a.s) HH.out hown' hkeep); have HX6 := Lib.hid (show Bx w6 wr.heap.size #[.int .i64 a.p, .int .i64 a.s.x, .int .i64 a.s.y, .slice a.h.A a.h.L.length a.h.c] 29 from ⟨((hkeep wr.heap.size hlw (fun e => by have := ((HC.out.row 0 h0 HH.out).1.lt _ e).2; omega)).1).trans HX4.out.blk⟩); clear hkeep ho6 kb1))
      all_goals
        have HTS := Lib.hid (show lns (hs.set 0 ⟨A6, q6, h0.L ++ [a.s]⟩) = stG S a0.h.L.length (k + 1) k 0 by rw [lns_set, HT.out, HL0.out]; exact stG_start HSA.out)
        have HCS : Hid (CI (w6.setCell ⟨w1.heap.size, 0, none⟩ (.slice A6 (h0.L.length + 1) q6)) w1.heap.size (.slice (some ⟨w1.heap.size, 0, none⟩) (a0.h.L.length + 1) (a0.h.L.length + 1)) (a0.h.L.length + 1) (hs.set 0 ⟨A6, q6, h0.L ++ [a.s]⟩) (.slice none 0 0) []) := HCG
        have HB7 := Lib.hid (show Below w1.heap.size w1 (w6.setCell ⟨w1.heap.size, 0, none⟩ (.slice A6 (h0.L.length + 1) q6)) from ((HB4.out.drew).trans hb6).setCell (Nat.le_refl _) _)
        have HX7 := Lib.hid (show Bx (w6.setCell ⟨w1.heap.size, 0, none⟩ (.slice A6 (h0.L.length + 1) q6)) wr.heap.size #[.int .i64 a.p, .int .i64 a.s.x, .int .i64 a.s.y, .slice a.h.A a.h.L.length a.h.c] 29 from ⟨HX6.out.blk.other (by omega) _⟩)
        clear HCG HX6 HK6 f6 c6 hb6 hsz6 g2 q1 q2 HO4
        generalize w6.setCell ⟨w1.heap.size, 0, none⟩ (.slice A6 (h0.L.length + 1) q6) = W7 at *
        have b3 := (HX7.out.blk.cell 3).trans (show _ = some (Value.slice a.h.A a.h.L.length a.h.c) from rfl)
        go_wp2_with fail
        clear b3
        go_loopw [41] (fun i_ wr2 => ∃ (j : Nat) (hs2 : List (Hdr Sp)), j ≤ a.h.L.length ∧ i_ = .int .i64 j ∧ Hid (lns hs2 = stG S a0.h.L.length (k + 1) k j) ∧ Hid (CI wr2 w1.heap.size (.slice (some ⟨w1.heap.size, 0, none⟩) (a0.h.L.length + 1) (a0.h.L.length + 1)) (a0.h.L.length + 1) hs2 (.slice none 0 0) []) ∧ Below w1.heap.size w1 wr2) (fun i_ _ => a.h.L.length - (intOf i_).toNat)
        case atStart => exact ⟨0, _, by omega, rfl, HTS, HCS, HB7.out⟩
        case round =>
          obtain ⟨j, hs2, hj, rfl, HT2, HC2, hb2⟩ := hrel
          clear HTS HCS
          have hbz2 := hb2.size
          have hbw2 := HB1.out.trans (hb2.mono hzw)
          by_cases hjl : j < a.h.L.length
          · obtain ⟨r, hr⟩ := some_of_lt hjl
            have hjR : j < a0.h.L.length := by have := HLE.out; omega
            obtain ⟨ba, oa, ea, r1, r2, r3⟩ := ((HG.out.below hbw2).row k a HHA.out).row hr
            obtain ⟨h1, hh1, hL1⟩ := lns_inv (hs := hs2) (k := j + 1) (L := colTo S j k) (by rw [HT2.out, stG_at S hjR, if_neg (Nat.lt_irrefl _)])
            have hlk1 : h1.L.length ≤ 12 := by rw [hL1, col_len (by rw [HN.out]; omega)]; omega
            obtain ⟨go_, oo_, eo_, g1⟩ := hdr_cell HC2.out.grid.mem hh1
            simp only [Option.some.injEq, Addr.mk.injEq, and_true] at eo_
            obtain ⟨rfl, rfl⟩ := eo_
            rw [Nat.zero_add] at g1
            have HRR := Lib.hid hr
            have HH1 := Lib.hid hh1
            have HL1 := Lib.hid hL1
            have hal := below_alloc wr (.cells #[.int .i64 r.c, .int .i64 r.t.x, .int .i64 r.t.y] 83)
            have q1 : (wr.alloc (.cells #[.int .i64 r.c, .int .i64 r.t.x, .int .i64 r.t.y] 83)).cell? ⟨wr.heap.size, 1, none⟩ = some (.int .i64 r.t.x) := by simp [go_sem]
            have q2 : (wr.alloc (.cells #[.int .i64 r.c, .int .i64 r.t.x, .int .i64 r.t.y] 83)).cell? ⟨wr.heap.size, 2, none⟩ = some (.int .i64 r.t.y) := by simp [go_sem]
            have g2 := keep1 hal g1
            have HC8 := Lib.hid (HC2.out.below hal)
            have HB8 := Lib.hid (hb2.trans (hal.mono hbz2))
            have hs8 : (wr.alloc (.cells #[.int .i64 r.c, .int .i64 r.t.x, .int .i64 r.t.y] 83)).heap.size = wr.heap.size + 1 := by simp
            have hlw8 : wr.heap.size < (wr.alloc (.cells #[.int .i64 r.c, .int .i64 r.t.x, .int .i64 r.t.y] 83)).heap.size := by omega
            have hlg2 : w1.heap.size < wr.heap.size := (HC2.out.own.lt _ rfl).2
            rw [ea]
            clear hr hh1 g1 hL1 hs8 ea
            go_wp2_with fail
            clear r1 r2 r3 hal
            generalize wr.alloc (.cells #[.int .i64 r.c, .int .i64 r.t.x, .int .i64 r.t.y] 83) = W8 at *
            have HO8 := Lib.hid (own_drew (HC8.out.row (j + 1) h1 HH1.out).1)
            have hlg8 : w1.heap.size < W8.heap.size := by omega
            have w1e : IntKind.i64.wrap ((j : Int) + 1) = (j : Int) + 1 := IntWalk.i64_in _ (by omega)
            have i1_ : (j : Int) + 1 < ((a0.h.L.length + 1 : Nat) : Int) := by omega
            have i2_ : (0 : Int) ≤ (j : Int) + 1 := by omega
            have i3_ : ((j : Int) + 1).toNat = j + 1 := by omega
            clear hb2 hbw2
            go_region_law
              ((refine step_append_keepE W8.drew _ rfl (.tmp 53) (.tmp 56) 59 rfl w1.heap.size 26 i1 (.agg #[.int .i64 0, .int .i64 0]) 2 16 Try.underlying59 hi1 hz01 hz11 hz21 rfl (by omega) _ _ _ rfl HO8.out #[.int .i64 r.t.x, .int .i64 r.t.y] 26 1 rfl rfl rfl rfl (by omega) (by omega) (by show w1.heap.size ≤ W8.heap.size; omega) ?_; intro v' w9 hown' hb9 hkeep hsz9; obtain ⟨A9, q9, rfl⟩ := own_form hown'; have HK9 := Lib.hid hkeep; have kb1 := (hkeep w1.heap.size (by show w1.heap.size < W8.heap.size; omega) (fun e => ((HC8.out.row (j + 1) h1 HH1.out).2 _ e).1 rfl)).1; have ho9 := own_same (w' := w9) HC8.out.own (fun g hg => by have e : w1.heap.size = g := Option.some.inj hg; subst e; exact kb1); have f9 := ho9.frozenAt (j + 1); have c9 := (ho9.cellAt (j + 1) (by omega)).trans (hcs_get HH1.out); have HCG := Lib.hid (HC8.out.grow (s := r.t) HH1.out hown' hkeep); clear hkeep ho9 kb1))
            all_goals
              have HTN := Lib.hid (show lns (hs2.set (j + 1) ⟨A9, q9, h1.L ++ [r.t]⟩) = stG S a0.h.L.length (k + 1) k (j + 1) by rw [lns_set, HT2.out, HL1.out]; exact stG_col HSA.out HRR.out hjR)
              have HBN := Lib.hid (show Below w1.heap.size w1 (w9.setCell ⟨w1.heap.size, j + 1, none⟩ (.slice A9 (h1.L.length + 1) q9)) from ((HB8.out.drew).trans hb9).setCell (Nat.le_refl _) _)
              clear f9 c9 HK9 hb9 hsz9 g2 q1 q2 w1e i1_ i2_ i3_
              go_wp2_with fail
              go_roundw
              case rel => exact ⟨j + 1, _, by omega, by go_num, HTN, HCG, HBN.out⟩
              case measure => simp [intOf]; omega
          · have HTN := Lib.hid (show lns hs2 = stG S a0.h.L.length (k + 1) (k + 1) 0 by
              have e : j = a0.h.L.length := by have := HLE.out; omega
              rw [HT2.out, e, stG_next])
            go_wp2_with fail
            go_roundw
            case rel => exact ⟨k + 1, _, by omega, by go_num, HTN, HC2, hb2⟩
            case measure => simp [intOf]; omega
    · have HTF := Lib.hid (show lns hs = coG S by
        have e : k = S.length := by rw [HN.out]; omega
        rw [HT.out, ← HR0.out, e, stG_all])
      have HM0 := Lib.hid ((HG.out.below hbw).row 0 a0 HH0.out)
      have d4 := keep1 hb D4.out
      have HB0 := Lib.hid hb
      have HCC := Lib.hid (show coC S = a0.h.L.map Rw.c by rw [coC, HR0.out])
      have hlg : w1.heap.size < wr.heap.size := (HC.out.own.lt _ rfl).2
      rename World => W3
      clear hb hbw HT
      go_wp2_with fail
      clear d4
      go_loopw [6, 66] (fun v i_ wr3 => ∃ j : Nat, j ≤ a0.h.L.length ∧ i_ = .int .i64 j ∧ Hid (CI wr3 w1.heap.size (.slice (some ⟨w1.heap.size, 0, none⟩) (a0.h.L.length + 1) (a0.h.L.length + 1)) (a0.h.L.length + 1) hs v ((a0.h.L.take j).map Rw.c)) ∧ Below w1.heap.size w1 wr3) (fun _ i_ _ => a0.h.L.length - (intOf i_).toNat)
      case atStart => exact ⟨0, by omega, rfl, HC, HB0.out⟩
      case round =>
        obtain ⟨j, hj, rfl, HC3, hb3⟩ := hrel
        have hbz3 := hb3.size
        by_cases hjl : j < a0.h.L.length
        · obtain ⟨r, hr⟩ := some_of_lt hjl
          obtain ⟨ba, oa, ea, r1, r2, r3⟩ := ((HG.out.below (HB1.out.trans (hb3.mono hzw))).row 0 a0 HH0.out).row hr
          have HRR := Lib.hid hr
          have hlj : ((a0.h.L.take j).map Rw.c).length ≤ 8 := by simp; omega
          have HTK := Lib.hid (show (a0.h.L.take (j + 1)).map Rw.c = (a0.h.L.take j).map Rw.c ++ [r.c] by rw [List.take_add_one, hr]; simp)
          have HC9 := Lib.hid (HC3.out.below (below_alloc wr (.cells #[.int .i64 r.c, .int .i64 r.t.x, .int .i64 r.t.y] 83)))
          have HB9 := Lib.hid (hb3.trans ((below_alloc wr (.cells #[.int .i64 r.c, .int .i64 r.t.x, .int .i64 r.t.y] 83)).mono hbz3))
          have HOI := Lib.hid (HC9.out.ints_.alloc (.cells #[.int .i64 r.c] 3))
          rw [ea]
          clear hr ea
          go_wp2_with (at_builtin; (refine wpList_append_keep _ rfl (.tmp 70) (.tmp 73) 23 rfl w1.heap.size 3 i2 (.int .i64 0) 1 8 Try.underlying23 hi2 hz02 hz12 hz22 rfl (by omega) _ _ _ rfl HC9.out.ints_ _ _ _ (congrArg (fun g => Value.slice (some ⟨g, 0, none⟩) 1 1) (by simp)) rfl rfl (by omega) (by omega) (by simp; omega) ?_; intro v' w2 hown' hb4 hkeep hsz4; have HCN := Lib.hid (HC9.out.count hown' hkeep); clear hkeep hown'))
          go_roundw
          case rel => exact ⟨j + 1, by omega, by go_num, Lib.hid (by rw [HTK.out]; exact HCN.out), HB9.out.trans hb4⟩
          case measure => simp [intOf]; omega
        · have e9 : (a0.h.L.take j).map Rw.c = coC S := by rw [List.take_of_length_le (by omega), HCC.out]
          rw [e9] at HC3
          have hcl : (coC S).length = a0.h.L.length := by rw [HCC.out, List.length_map]
          obtain ⟨Bv, dv, rfl⟩ := own_form HC3.out.ints_
          have HCL := Lib.hid hcl
          have hcl2 : (coC S).length ≤ 8 := by omega
          have HGL := Lib.hid (show hs.length = a0.h.L.length + 1 from HC3.out.len)
          have HRW := Lib.hid (show ∀ (q : Nat) (h : Hdr Sp), hs[q]? = some h → h.L.length ≤ 1048576 ∧ h.L.length ≤ h.c from fun q h hq => ⟨by
            have e := lns_at hq
            rw [HTF.out] at e
            rw [coG_rows e, HN.out]; omega, HC3.out.cap hq⟩)
          have HB9 := Lib.hid hb3
          clear hcl e9 hb3
          go_wp2_with fail
          have hct := shCharts_any (some ⟨w1.heap.size, 0, none⟩) (a0.h.L.length + 1) hs Bv dv (coC S) _ HC3.out.grid (Mem.of_own HC3.out.ints_) (by rw [HGL.out]; omega) (by omega) HRW.out
          rw [HGL.out, HTF.out] at hct
          refine hct.mono ?_
          clear hct
          rintro e w2 ⟨he, hq2⟩
          have HC4 := Lib.hid (HC3.out.below hq2)
          have HB4 := Lib.hid (HB1.out.trans ((Below.next hq2 HB9.out HB9.out.size).mono hzw))
          cases hac : acOk (coG S) (coC S)
          · rw [hac] at he
            subst he
            have HV := Lib.hid (show coOk S = false by rw [coOk, hac, Bool.and_false])
            go_wp2_with fail
            go_ret3
            exact RetCh.none_ (by rw [coGV, HV.out]; rfl) (by rw [coCV, HV.out]; rfl) HV.out HB4.out
          · rw [hac] at he
            subst he
            have HV := Lib.hid (show coOk S = true by rw [coOk, hac, HAL.out]; rfl)
            have HGN := Lib.hid (show (coG S).length = a0.h.L.length + 1 by rw [coG_len, HR0.out])
            go_wp2_with fail
            go_ret3
            rw [show coGV S = coG S by rw [coGV, HV.out]; rfl, show coCV S = coC S by rw [coCV, HV.out]; rfl, HV.out]
            refine ⟨some ⟨w1.heap.size, 0, none⟩, a0.h.L.length + 1, hs, Bv, dv, by rw [HGN.out]; rfl, HTF.out, ?_, HB4.out⟩
            rw [HGN.out]
            exact HC4.out.base_ hzw
end Go.Proofs.Ytbgbcajcajaocaa
