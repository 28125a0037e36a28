/-
  Contracts: HeardFirst and BestListener, the program's and the reference's.
-/
import Derived.Test.YtdipmjflgjlfeaaSndb
namespace Go.Proofs.Ytdipmjflgjlfeaa
open Go.RowKit Go.Sort

set_option maxHeartbeats 1600000 in
set_option maxRecDepth 100000 in
theorem spec_HeardFirst_any (A : Option Addr) (c : Nat) (L : List Sp) (a : Sp) (w : World) (hm : Mem w A (spots L)) (hl : L.length ≤ 1048576) : Calls Try.prog 17 #[.slice A L.length c, .agg #[.int .i64 a.x, .int .i64 a.y]] w fun e w' =>
    e = .returned (.tuple #[.int .i64 (q1V L a (argmin (times L a) L.length)), .bool (srcOk L && isSp a)]) ∧ Below w.heap.size w w' := by
  cases h1 : srcOk L
  · go_enter Try.func17, Try.ntmps17
    go_wp2_with (go_at_call 83; refine (snList_any _ _ L _ (hm.below (by (repeat (first | exact Below.refl _ _ | assumption | (refine Below.alloc ?_ (by first | omega | (simp; done) | (simp; omega)) _) | (refine Below.setCell ?_ (by first | omega | (simp; done) | (simp; omega)) _) | (refine Below.drew ?_) | (refine Below.drewN ?_ _) | (refine Below.next (by assumption) ?_ (by first | omega | (simp; done) | (simp; omega))))))) hl).mono ?_; rintro e w' ⟨rfl, hq⟩; obtain ⟨hz, hc, hf⟩ := bel hq; (try simp at hz); (try have gz1 : w.heap.size < w'.heap.size := by omega); (try have gz2 : w.heap.size + 1 < w'.heap.size := by omega); (try have gz3 : wr.heap.size < w'.heap.size := by omega))
    go_ret2
    exact ⟨ret_pair (by simp [q1V, h1]) rfl, by (repeat (first | exact Below.refl _ _ | assumption | (refine Below.alloc ?_ (by first | omega | (simp; done) | (simp; omega)) _) | (refine Below.setCell ?_ (by first | omega | (simp; done) | (simp; omega)) _) | (refine Below.drew ?_) | (refine Below.drewN ?_ _) | (refine Below.next (by assumption) ?_ (by first | omega | (simp; done) | (simp; omega)))))⟩
  obtain ⟨g1, g2, g3⟩ := srcOk_iff.1 h1
  cases h2 : isSp a
  · go_enter Try.func17, Try.ntmps17
    go_wp2_with (first | (go_at_call 83; refine (snList_any _ _ L _ (hm.below (by (repeat (first | exact Below.refl _ _ | assumption | (refine Below.alloc ?_ (by first | omega | (simp; done) | (simp; omega)) _) | (refine Below.setCell ?_ (by first | omega | (simp; done) | (simp; omega)) _) | (refine Below.drew ?_) | (refine Below.drewN ?_ _) | (refine Below.next (by assumption) ?_ (by first | omega | (simp; done) | (simp; omega))))))) hl).mono ?_; rintro e w' ⟨rfl, hq⟩; obtain ⟨hz, hc, hf⟩ := bel hq; (try simp at hz); (try have gz1 : w.heap.size < w'.heap.size := by omega); (try have gz2 : w.heap.size + 1 < w'.heap.size := by omega); (try have gz3 : wr.heap.size < w'.heap.size := by omega)) | (go_at_call 84; refine (stGood_any _ _).mono ?_; rintro e w' ⟨rfl, o, rfl⟩))
    go_ret2
    exact ⟨ret_pair (by simp [q1V, h2]) rfl, by (repeat (first | exact Below.refl _ _ | assumption | (refine Below.alloc ?_ (by first | omega | (simp; done) | (simp; omega)) _) | (refine Below.setCell ?_ (by first | omega | (simp; done) | (simp; omega)) _) | (refine Below.drew ?_) | (refine Below.drewN ?_ _) | (refine Below.next (by assumption) ?_ (by first | omega | (simp; done) | (simp; omega)))))⟩
  have HV : Hid (q1V L a (argmin (times L a) L.length) = (argmin (times L a) L.length : Nat)) := Lib.hid (by simp [q1V, h1, h2])
  have hT : 0 < (times L a).length := by rw [times_len]; exact g3
  go_enter Try.func17, Try.ntmps17
  go_wp2_with (first | (go_at_call 83; refine (snList_any _ _ L _ (hm.below (by (repeat (first | exact Below.refl _ _ | assumption | (refine Below.alloc ?_ (by first | omega | (simp; done) | (simp; omega)) _) | (refine Below.setCell ?_ (by first | omega | (simp; done) | (simp; omega)) _) | (refine Below.drew ?_) | (refine Below.drewN ?_ _) | (refine Below.next (by assumption) ?_ (by first | omega | (simp; done) | (simp; omega))))))) hl).mono ?_; rintro e w' ⟨rfl, hq⟩; obtain ⟨hz, hc, hf⟩ := bel hq; (try simp at hz); (try have gz1 : w.heap.size < w'.heap.size := by omega); (try have gz2 : w.heap.size + 1 < w'.heap.size := by omega); (try have gz3 : wr.heap.size < w'.heap.size := by omega)) | (go_at_call 84; refine (stGood_any _ _).mono ?_; rintro e w' ⟨rfl, o, rfl⟩))
  have HG := Lib.hid g1
  have HA := Lib.hid h2
  clear h1 g1 h2 hc hf
  go_loopw [6, 7, 8, 19] (fun best _ _ i wr => ∃ k m : Nat, k ≤ L.length ∧ m < L.length ∧ i = .int .i64 k ∧ best = .int .i64 m ∧ Below (w.heap.size + 1) (w.alloc (.cells #[.int .i64 a.x, .int .i64 a.y] 25)) wr ∧ Hid (argmin (times L a) k = m)) (fun _ _ _ i _ => L.length - (intOf i).toNat)
  case atStart => exact ⟨0, 0, by omega, g3, rfl, rfl, by (repeat (first | exact Below.refl _ _ | assumption | (refine Below.alloc ?_ (by first | omega | (simp; done) | (simp; omega)) _) | (refine Below.setCell ?_ (by first | omega | (simp; done) | (simp; omega)) _) | (refine Below.drew ?_) | (refine Below.drewN ?_ _) | (refine Below.next (by assumption) ?_ (by first | omega | (simp; done) | (simp; omega))))), Lib.hid rfl⟩
  case round =>
    obtain ⟨k, m, hk, hml, rfl, rfl, hbx, H⟩ := hrel
    obtain ⟨hb, hsz⟩ := boxed hbx
    by_cases hlt : k < L.length
    · obtain ⟨s, hs⟩ := some_of_lt hlt
      obtain ⟨u, hu⟩ := some_of_lt hml
      obtain ⟨b, off, rfl, e1, e2⟩ := (hm.below hb).spot hs
      obtain ⟨b2, off2, e0, e3, e4⟩ := (hm.below hb).spot hu
      obtain ⟨rfl, rfl⟩ : b = b2 ∧ off = off2 := by simpa using e0
      have hsg := all_at HG.out hs
      have hug := all_at HG.out hu
      have hbl := World.block_lt_of_cell? wr _ e1
      have q1 : wr.cell? ⟨w.heap.size, 0, none⟩ = some (.int .i64 a.x) := boxed_cell hbx 0
      have q2 : wr.cell? ⟨w.heap.size, 1, none⟩ = some (.int .i64 a.y) := boxed_cell hbx 1
      have k1 := cell_regrown (w := wr.alloc (.cells #[.int .i64 s.x, .int .i64 s.y] 25)) (a := ⟨wr.heap.size, 0, none⟩) (v := .int .i64 s.x) (by simp [go_sem])
      have k2 := cell_regrown (w := wr.alloc (.cells #[.int .i64 s.x, .int .i64 s.y] 25)) (a := ⟨wr.heap.size, 1, none⟩) (v := .int .i64 s.y) (by simp [go_sem])
      have k3 := cell_regrown (w := wr.alloc (.cells #[.int .i64 s.x, .int .i64 s.y] 25)) (a := ⟨w.heap.size, 0, none⟩) (v := .int .i64 a.x) (by simp [go_sem, *])
      have k4 := cell_regrown (w := wr.alloc (.cells #[.int .i64 s.x, .int .i64 s.y] 25)) (a := ⟨w.heap.size, 1, none⟩) (v := .int .i64 a.y) (by simp [go_sem, *])
      have k5 := cell_regrown (w := wr.alloc (.cells #[.int .i64 s.x, .int .i64 s.y] 25)) (a := ⟨b, off + m * 2, none⟩) (v := .int .i64 u.x) (by simp at hbl; simp [go_sem, *])
      have k6 := cell_regrown (w := wr.alloc (.cells #[.int .i64 s.x, .int .i64 s.y] 25)) (a := ⟨b, off + m * 2 + 1, none⟩) (v := .int .i64 u.y) (by simp at hbl; simp [go_sem, *])
      have c1 : ∀ t : Sp, isSp t = true → ∀ dd os, Calls Try.prog 76 #[.agg #[.int .i64 t.x, .int .i64 t.y], .agg #[.int .i64 a.x, .int .i64 a.y]] (grow (redrawn (wr.alloc (.cells #[.int .i64 s.x, .int .i64 s.y] 25)) dd) os) fun e w'' => e = .returned (.int .i64 (sndT (sq t a))) ∧ ∃ p : Regrown, w'' = grow (redrawn (wr.alloc (.cells #[.int .i64 s.x, .int .i64 s.y] 25)) p.d) p.os :=
        fun t ht dd os => Calls.regrown_of (snDelay_any t a ht HA.out _)
      have hstep : argmin (times L a) (k + 1) = if tm s a < tm u a then k else m := by
        have h := argmin_step (T := times L a) (k := k) (times_at hs) (u := tm a u) (by rw [H.out]; exact times_at hu)
        rw [h, H.out, tm_comm a s, tm_comm a u]
      have HST := Lib.hid hstep
      have C1 := Lib.hid c1
      clear hs hu e0 q1 q2 hstep e3 e4 c1
      by_cases hcmp : sndT (sq s a) < sndT (sq u a)
      · go_wp2
        refine wp_region_quiet_below (by kernel_rfl) (by kernel_rfl) ?_
        repeat (quiet_step (exact C1.out _ (by assumption) _ _))
        refine wpQuiet_nil ?_
        intro _ hw'
        obtain ⟨⟨dq, osq⟩, hw''⟩ := hw'
        subst hw''
        have hb2 := below_regrown (wr.alloc (.cells #[.int .i64 s.x, .int .i64 s.y] 25)) dq osq
        go_wp2
        go_roundw
        case rel => exact ⟨k + 1, k, by omega, hlt, by go_num, rfl, by (repeat (first | exact Below.refl _ _ | assumption | (refine Below.alloc ?_ (by first | omega | (simp; done) | (simp; omega)) _) | (refine Below.setCell ?_ (by first | omega | (simp; done) | (simp; omega)) _) | (refine Below.drew ?_) | (refine Below.drewN ?_ _) | (refine Below.next (by assumption) ?_ (by first | omega | (simp; done) | (simp; omega))))), Lib.hid (by rw [HST.out, if_pos (by unfold tm; omega)])⟩
        case measure => simp [intOf]; omega
      · go_wp2
        refine wp_region_quiet_below (by kernel_rfl) (by kernel_rfl) ?_
        repeat (quiet_step (exact C1.out _ (by assumption) _ _))
        refine wpQuiet_nil ?_
        intro _ hw'
        obtain ⟨⟨dq, osq⟩, hw''⟩ := hw'
        subst hw''
        have hb2 := below_regrown (wr.alloc (.cells #[.int .i64 s.x, .int .i64 s.y] 25)) dq osq
        go_wp2
        go_roundw
        case rel => exact ⟨k + 1, m, by omega, hml, by go_num, rfl, by (repeat (first | exact Below.refl _ _ | assumption | (refine Below.alloc ?_ (by first | omega | (simp; done) | (simp; omega)) _) | (refine Below.setCell ?_ (by first | omega | (simp; done) | (simp; omega)) _) | (refine Below.drew ?_) | (refine Below.drewN ?_ _) | (refine Below.next (by assumption) ?_ (by first | omega | (simp; done) | (simp; omega))))), Lib.hid (by rw [HST.out, if_neg (by unfold tm; omega)])⟩
        case measure => simp [intOf]; omega
    · go_wp2
      go_ret2
      have e1 : k = L.length := by omega
      subst e1
      exact ⟨ret_pair (by rw [HV.out, H.out]) rfl, hb⟩

set_option maxRecDepth 100000 in
theorem impl_HeardFirst_any (A : Option Addr) (c : Nat) (L : List Sp) (a : Sp) (w : World) (hm : Mem w A (spots L)) (hl : L.length ≤ 1048576) : Calls Try.prog 16 #[.slice A L.length c, .agg #[.int .i64 a.x, .int .i64 a.y]] w fun e w' =>
    e = .returned (.tuple #[.int .i64 (q1V L a (argmin (times L a) L.length)), .bool (srcOk L && isSp a)]) ∧ Below w.heap.size w w' := by
  cases h1 : srcOk L
  · go_enter Try.func16, Try.ntmps16
    go_wp2_with (go_at_call 80; refine (areSources_any _ _ L _ (hm.below (by (repeat (first | exact Below.refl _ _ | assumption | (refine Below.alloc ?_ (by first | omega | (simp; done) | (simp; omega)) _) | (refine Below.setCell ?_ (by first | omega | (simp; done) | (simp; omega)) _) | (refine Below.drew ?_) | (refine Below.drewN ?_ _) | (refine Below.next (by assumption) ?_ (by first | omega | (simp; done) | (simp; omega))))))) hl).mono ?_; rintro e w' ⟨rfl, hq⟩; obtain ⟨hz, hc, hf⟩ := bel hq; (try simp at hz); (try have gz1 : w.heap.size < w'.heap.size := by omega); (try have gz2 : w.heap.size + 1 < w'.heap.size := by omega); (try have gz3 : wr.heap.size < w'.heap.size := by omega))
    go_ret2
    exact ⟨ret_pair (by simp [q1V, h1]) rfl, by (repeat (first | exact Below.refl _ _ | assumption | (refine Below.alloc ?_ (by first | omega | (simp; done) | (simp; omega)) _) | (refine Below.setCell ?_ (by first | omega | (simp; done) | (simp; omega)) _) | (refine Below.drew ?_) | (refine Below.drewN ?_ _) | (refine Below.next (by assumption) ?_ (by first | omega | (simp; done) | (simp; omega)))))⟩
  obtain ⟨g1, g2, g3⟩ := srcOk_iff.1 h1
  cases h2 : isSp a
  · go_enter Try.func16, Try.ntmps16
    go_wp2_with (first | (go_at_call 80; refine (areSources_any _ _ L _ (hm.below (by (repeat (first | exact Below.refl _ _ | assumption | (refine Below.alloc ?_ (by first | omega | (simp; done) | (simp; omega)) _) | (refine Below.setCell ?_ (by first | omega | (simp; done) | (simp; omega)) _) | (refine Below.drew ?_) | (refine Below.drewN ?_ _) | (refine Below.next (by assumption) ?_ (by first | omega | (simp; done) | (simp; omega))))))) hl).mono ?_; rintro e w' ⟨rfl, hq⟩; obtain ⟨hz, hc, hf⟩ := bel hq; (try simp at hz); (try have gz1 : w.heap.size < w'.heap.size := by omega); (try have gz2 : w.heap.size + 1 < w'.heap.size := by omega); (try have gz3 : wr.heap.size < w'.heap.size := by omega)) | (go_at_call 73; refine (isSpot_any _ _).mono ?_; rintro e w' ⟨rfl, o, rfl⟩))
    go_ret2
    exact ⟨ret_pair (by simp [q1V, h2]) rfl, by (repeat (first | exact Below.refl _ _ | assumption | (refine Below.alloc ?_ (by first | omega | (simp; done) | (simp; omega)) _) | (refine Below.setCell ?_ (by first | omega | (simp; done) | (simp; omega)) _) | (refine Below.drew ?_) | (refine Below.drewN ?_ _) | (refine Below.next (by assumption) ?_ (by first | omega | (simp; done) | (simp; omega)))))⟩
  have HV : Hid (q1V L a (argmin (times L a) L.length) = (argmin (times L a) L.length : Nat)) := Lib.hid (by simp [q1V, h1, h2])
  have hT : 0 < (times L a).length := by rw [times_len]; exact g3
  have HTL := Lib.hid (times_len L a)
  go_enter Try.func16, Try.ntmps16
  go_wp2_with (first | (go_at_call 80; refine (areSources_any _ _ L _ (hm.below (by (repeat (first | exact Below.refl _ _ | assumption | (refine Below.alloc ?_ (by first | omega | (simp; done) | (simp; omega)) _) | (refine Below.setCell ?_ (by first | omega | (simp; done) | (simp; omega)) _) | (refine Below.drew ?_) | (refine Below.drewN ?_ _) | (refine Below.next (by assumption) ?_ (by first | omega | (simp; done) | (simp; omega))))))) hl).mono ?_; rintro e w' ⟨rfl, hq⟩; obtain ⟨hz, hc, hf⟩ := bel hq; (try simp at hz); (try have gz1 : w.heap.size < w'.heap.size := by omega); (try have gz2 : w.heap.size + 1 < w'.heap.size := by omega); (try have gz3 : wr.heap.size < w'.heap.size := by omega)) | (go_at_call 73; refine (isSpot_any _ _).mono ?_; rintro e w' ⟨rfl, o, rfl⟩) | (go_at_call 82; refine (timesAt_any _ _ L a _ (hm.below (by (repeat (first | exact Below.refl _ _ | assumption | (refine Below.alloc ?_ (by first | omega | (simp; done) | (simp; omega)) _) | (refine Below.setCell ?_ (by first | omega | (simp; done) | (simp; omega)) _) | (refine Below.drew ?_) | (refine Below.drewN ?_ _) | (refine Below.next (by assumption) ?_ (by first | omega | (simp; done) | (simp; omega))))))) g2 g1 h2).mono ?_; rintro e w' ⟨A', c', rfl, ho, hq⟩; obtain ⟨hz, hc, hf⟩ := bel hq; (try simp at hz); (try have gz1 : w.heap.size < w'.heap.size := by omega); (try have gz2 : w.heap.size + 1 < w'.heap.size := by omega); (try have gz3 : wr.heap.size < w'.heap.size := by omega)))
  have hb0 : Below w.heap.size w w' := by (repeat (first | exact Below.refl _ _ | assumption | (refine Below.alloc ?_ (by first | omega | (simp; done) | (simp; omega)) _) | (refine Below.setCell ?_ (by first | omega | (simp; done) | (simp; omega)) _) | (refine Below.drew ?_) | (refine Below.drewN ?_ _) | (refine Below.next (by assumption) ?_ (by first | omega | (simp; done) | (simp; omega)))))
  have hmt : Mem w' A' (ints (times L a)) := Mem.of_own ho
  clear h1 g1 h2 hc hf ho hq
  go_loop [7, 8, 9, 23] (fun best _ _ i => ∃ k m : Nat, k ≤ L.length ∧ m < L.length ∧ i = .int .i64 k ∧ best = .int .i64 m ∧ Hid (argmin (times L a) k = m)) (fun _ _ _ i => L.length - (intOf i).toNat)
  case atStart => exact ⟨0, 0, by omega, g3, rfl, rfl, Lib.hid rfl⟩
  case round =>
    obtain ⟨k, m, hk, hml, rfl, rfl, H⟩ := hrel
    by_cases hlt : k < L.length
    · obtain ⟨s, hs⟩ := some_of_lt (L := times L a) (k := k) (by rw [times_len]; exact hlt)
      obtain ⟨u, hu⟩ := some_of_lt (L := times L a) (k := m) (by rw [times_len]; exact hml)
      obtain ⟨b, off, rfl, e1⟩ := hmt.int hs
      obtain ⟨b2, off2, e0, e3⟩ := hmt.int hu
      obtain ⟨rfl, rfl⟩ : b = b2 ∧ off = off2 := by simpa using e0
      have hstep := argmin_step (T := times L a) (k := k) hs (u := u) (by rw [H.out]; exact hu)
      have HST := Lib.hid hstep
      clear hs hu e0 hstep
      by_cases hcmp : s < u
      · go_wp2
        go_round
        case rel => exact ⟨k + 1, k, by omega, hlt, by go_num, rfl, Lib.hid (by rw [HST.out, if_pos hcmp])⟩
        case measure => simp [intOf]; omega
      · go_wp2
        go_round
        case rel => exact ⟨k + 1, m, by omega, hml, by go_num, rfl, Lib.hid (by rw [HST.out, if_neg hcmp, H.out])⟩
        case measure => simp [intOf]; omega
    · go_wp2
      go_ret2
      have e1 : k = L.length := by omega
      subst e1
      exact ⟨ret_pair (by rw [HV.out, H.out]) rfl, hb0⟩
end Go.Proofs.Ytdipmjflgjlfeaa
