/-
  Contracts: BestListener, the program's and the reference's.
-/
import Derived.Test.YtdipmjflgjlfeaaSndb
namespace Go.Proofs.Ytdipmjflgjlfeaa
open Go.RowKit Go.Sort

theorem spreadTimes_any (A : Option Addr) (c : Nat) (L : List Sp) (a : Sp) (w : World) (hm : Mem w A (ints (times L a))) (hl : L.length ≤ 40) (h0 : 0 < L.length) (hT : ∀ x ∈ times L a, 0 ≤ x ∧ x ≤ 302) : Calls Try.prog 81 #[.slice A L.length c] w fun e w' =>
    e = .returned (.tuple #[.int .i64 (lowOf (times L a)), .int .i64 (spr L a)]) ∧ Below w.heap.size w w' := by
  have := spreadOf_any A c (times L a) w hm (by rw [times_len]; omega) (by rw [times_len]; omega) (fun x hx => by have := hT x hx; omega)
  rw [times_len] at this
  exact this

def sprs (L M : List Sp) : List Int := M.map (spr L)
theorem sprs_len (L M : List Sp) : (sprs L M).length = M.length := by simp [sprs]
theorem sprs_at {L M : List Sp} {a : Sp} {k : Nat} (h : M[k]? = some a) : (sprs L M)[k]? = some (spr L a) := by simp [sprs, h]
def blV (L M : List Sp) : Int := if srcOk L && srcOk M then argmin (sprs L M) M.length else 0

set_option maxHeartbeats 1600000 in
set_option maxRecDepth 100000 in
theorem spec_BestListener_any (A : Option Addr) (c : Nat) (L : List Sp) (B : Option Addr) (d : Nat) (M : List Sp) (w : World) (hm : Mem w A (spots L)) (hn : Mem w B (spots M)) (hl : L.length ≤ 1048576) (hl2 : M.length ≤ 1048576) : Calls Try.prog 26 #[.slice A L.length c, .slice B M.length d] w fun e w' =>
    e = .returned (.tuple #[.int .i64 (blV L M), .bool (srcOk L && srcOk M)]) ∧ Below w.heap.size w w' := by
  cases h1 : srcOk L
  · go_enter Try.func26, Try.ntmps26
    go_wp2_with (go_at_call 83; refine (snList_any _ _ L _ (hm.below (by (repeat (first | exact Below.refl _ _ | assumption | (refine Below.alloc ?_ (by first | omega | (simp; done) | (simp; omega)) _) | (refine Below.setCell ?_ (by first | omega | (simp; done) | (simp; omega)) _) | (refine Below.drew ?_) | (refine Below.drewN ?_ _) | (refine Below.next (by assumption) ?_ (by first | omega | (simp; done) | (simp; omega))))))) hl).mono ?_; rintro e w' ⟨rfl, hq⟩; obtain ⟨hz, hc, hf⟩ := bel hq; (try simp at hz); (try have gz1 : w.heap.size < w'.heap.size := by omega); (try have gz2 : w.heap.size + 1 < w'.heap.size := by omega); (try have gz3 : wr.heap.size < w'.heap.size := by omega))
    go_ret2
    exact ⟨ret_pair (by simp [blV, h1]) rfl, by (repeat (first | exact Below.refl _ _ | assumption | (refine Below.alloc ?_ (by first | omega | (simp; done) | (simp; omega)) _) | (refine Below.setCell ?_ (by first | omega | (simp; done) | (simp; omega)) _) | (refine Below.drew ?_) | (refine Below.drewN ?_ _) | (refine Below.next (by assumption) ?_ (by first | omega | (simp; done) | (simp; omega)))))⟩
  obtain ⟨g1, g2, g3⟩ := srcOk_iff.1 h1
  cases h2 : srcOk M
  · go_enter Try.func26, Try.ntmps26
    go_wp2_with fail
    refine (snList_any _ _ L _ hm hl).mono ?_
    rintro e w1 ⟨rfl, hq1⟩
    go_wp2_with fail
    refine (snList_any _ _ M _ (hn.below hq1) hl2).mono ?_
    rintro e w2 ⟨rfl, hq2⟩
    have hz := hq1.size
    go_wp2
    go_ret2
    exact ⟨ret_pair (by simp [blV, h2]) rfl, by (repeat (first | exact Below.refl _ _ | assumption | (refine Below.alloc ?_ (by first | omega | (simp; done) | (simp; omega)) _) | (refine Below.setCell ?_ (by first | omega | (simp; done) | (simp; omega)) _) | (refine Below.drew ?_) | (refine Below.drewN ?_ _) | (refine Below.next (by assumption) ?_ (by first | omega | (simp; done) | (simp; omega)))))⟩
  obtain ⟨r1, r2, r3⟩ := srcOk_iff.1 h2
  have HV : Hid (blV L M = (argmin (sprs L M) M.length : Nat)) := Lib.hid (by simp [blV, h1, h2])
  go_enter Try.func26, Try.ntmps26
  go_wp2_with fail
  refine (snList_any _ _ L _ hm hl).mono ?_
  rintro e w1 ⟨rfl, hq1⟩
  go_wp2_with fail
  refine (snList_any _ _ M _ (hn.below hq1) hl2).mono ?_
  rintro e w2 ⟨rfl, hq2⟩
  have hz := hq1.size
  have hb2 : Below w.heap.size w w2 := by (repeat (first | exact Below.refl _ _ | assumption | (refine Below.alloc ?_ (by first | omega | (simp; done) | (simp; omega)) _) | (refine Below.setCell ?_ (by first | omega | (simp; done) | (simp; omega)) _) | (refine Below.drew ?_) | (refine Below.drewN ?_ _) | (refine Below.next (by assumption) ?_ (by first | omega | (simp; done) | (simp; omega)))))
  have HG := Lib.hid g1
  have HR := Lib.hid r1
  go_wp2
  clear h1 h2 g1 r1 hq1 hq2 hz
  go_loopw [6, 7, 8, 19] (fun best _ _ i wr => ∃ k m : Nat, k ≤ M.length ∧ m < M.length ∧ i = .int .i64 k ∧ best = .int .i64 m ∧ Below w.heap.size w wr ∧ Hid (argmin (sprs L M) k = m)) (fun _ _ _ i _ => M.length - (intOf i).toNat)
  case atStart => exact ⟨0, 0, by omega, r3, rfl, rfl, hb2, Lib.hid rfl⟩
  case round =>
    obtain ⟨k, m, hk, hml, rfl, rfl, hb, H⟩ := hrel
    by_cases hlt : k < M.length
    · obtain ⟨s, hs⟩ := some_of_lt hlt
      obtain ⟨u, hu⟩ := some_of_lt hml
      obtain ⟨b, off, rfl, e1, e2⟩ := (hn.below hb).spot hs
      obtain ⟨b2, off2, e0, e3, e4⟩ := (hn.below hb).spot hu
      obtain ⟨rfl, rfl⟩ : b = b2 ∧ off = off2 := by simpa using e0
      have hsg := all_at HR.out hs
      have hug := all_at HR.out hu
      have hbl : b < wr.heap.size := World.block_lt_of_cell? wr _ e1
      have hsz := hb.size
      have k1 := cell_regrown (w := wr.alloc (.cells #[.int .i64 s.x, .int .i64 s.y] 25)) (a := ⟨wr.heap.size, 0, none⟩) (v := .int .i64 s.x) (by simp [go_sem])
      have k2 := cell_regrown (w := wr.alloc (.cells #[.int .i64 s.x, .int .i64 s.y] 25)) (a := ⟨wr.heap.size, 1, none⟩) (v := .int .i64 s.y) (by simp [go_sem])
      have k5 := cell_regrown (w := wr.alloc (.cells #[.int .i64 s.x, .int .i64 s.y] 25)) (a := ⟨b, off + m * 2, none⟩) (v := .int .i64 u.x) (by simp [go_sem, *])
      have k6 := cell_regrown (w := wr.alloc (.cells #[.int .i64 s.x, .int .i64 s.y] 25)) (a := ⟨b, off + m * 2 + 1, none⟩) (v := .int .i64 u.y) (by simp [go_sem, *])
      have hmr : ∀ dd os, Mem (grow (redrawn (wr.alloc (.cells #[.int .i64 s.x, .int .i64 s.y] 25)) dd) os) A (spots L) := fun dd os => (hm.below hb).below (((Below.refl _ _).alloc (Nat.le_refl _) _).trans ((below_regrown _ dd os).mono (by simp)))
      have c1 : ∀ t : Sp, isSp t = true → ∀ dd os, Calls Try.prog 85 #[.slice A L.length c, .agg #[.int .i64 t.x, .int .i64 t.y]] (grow (redrawn (wr.alloc (.cells #[.int .i64 s.x, .int .i64 s.y] 25)) dd) os) fun e w'' => e = .returned (.int .i64 (spr L t)) ∧ ∃ p : Regrown, w'' = grow (redrawn (wr.alloc (.cells #[.int .i64 s.x, .int .i64 s.y] 25)) p.d) p.os :=
        fun t ht dd os => Calls.regrown_of (snSpread_any _ _ L t _ (hmr dd os) g2 g3 HG.out ht)
      have hstep := argmin_step (T := sprs L M) (k := k) (sprs_at hs) (u := spr L u) (by rw [H.out]; exact sprs_at hu)
      have HST := Lib.hid hstep
      have C1 := Lib.hid c1
      clear hs hu e0 hstep e3 e4 hmr c1
      by_cases hcmp : spr L s < spr L u
      all_goals
        go_wp2
        refine wp_region_quiet_below (by kernel_rfl) (by kernel_rfl) ?_
        repeat (quiet_step (exact C1.out _ (by assumption) _ _))
        refine wpQuiet_nil ?_
        intro _ hw'
        obtain ⟨⟨dq, osq⟩, hw''⟩ := hw'
        subst hw''
        have hb2 := below_regrown (wr.alloc (.cells #[.int .i64 s.x, .int .i64 s.y] 25)) dq osq
        go_wp2
        go_roundw
        case rel => first | exact ⟨k + 1, k, by omega, hlt, by go_num, rfl, by (repeat (first | exact Below.refl _ _ | assumption | (refine Below.alloc ?_ (by first | omega | (simp; done) | (simp; omega)) _) | (refine Below.setCell ?_ (by first | omega | (simp; done) | (simp; omega)) _) | (refine Below.drew ?_) | (refine Below.drewN ?_ _) | (refine Below.next (by assumption) ?_ (by first | omega | (simp; done) | (simp; omega))))), Lib.hid (by rw [HST.out, if_pos (by omega)])⟩ | exact ⟨k + 1, m, by omega, hml, by go_num, rfl, by (repeat (first | exact Below.refl _ _ | assumption | (refine Below.alloc ?_ (by first | omega | (simp; done) | (simp; omega)) _) | (refine Below.setCell ?_ (by first | omega | (simp; done) | (simp; omega)) _) | (refine Below.drew ?_) | (refine Below.drewN ?_ _) | (refine Below.next (by assumption) ?_ (by first | omega | (simp; done) | (simp; omega))))), Lib.hid (by rw [HST.out, if_neg (by omega), H.out])⟩
        case measure => simp [intOf]; omega
    · go_wp2
      go_ret2
      have e1 : k = M.length := by omega
      subst e1
      exact ⟨ret_pair (by rw [HV.out, H.out]) rfl, hb⟩

set_option maxHeartbeats 1600000 in
set_option maxRecDepth 100000 in
theorem impl_BestListener_any (A : Option Addr) (c : Nat) (L : List Sp) (B : Option Addr) (d : Nat) (M : List Sp) (w : World) (hm : Mem w A (spots L)) (hn : Mem w B (spots M)) (hl : L.length ≤ 1048576) (hl2 : M.length ≤ 1048576) : Calls Try.prog 25 #[.slice A L.length c, .slice B M.length d] w fun e w' =>
    e = .returned (.tuple #[.int .i64 (blV L M), .bool (srcOk L && srcOk M)]) ∧ Below w.heap.size w w' := by
  cases h1 : srcOk L
  · go_enter Try.func25, Try.ntmps25
    go_wp2_with (go_at_call 80; refine (areSources_any _ _ L _ (hm.below (by (repeat (first | exact Below.refl _ _ | assumption | (refine Below.alloc ?_ (by first | omega | (simp; done) | (simp; omega)) _) | (refine Below.setCell ?_ (by first | omega | (simp; done) | (simp; omega)) _) | (refine Below.drew ?_) | (refine Below.drewN ?_ _) | (refine Below.next (by assumption) ?_ (by first | omega | (simp; done) | (simp; omega))))))) hl).mono ?_; rintro e w' ⟨rfl, hq⟩; obtain ⟨hz, hc, hf⟩ := bel hq; (try simp at hz); (try have gz1 : w.heap.size < w'.heap.size := by omega); (try have gz2 : w.heap.size + 1 < w'.heap.size := by omega); (try have gz3 : wr.heap.size < w'.heap.size := by omega))
    go_ret2
    exact ⟨ret_pair (by simp [blV, h1]) rfl, by (repeat (first | exact Below.refl _ _ | assumption | (refine Below.alloc ?_ (by first | omega | (simp; done) | (simp; omega)) _) | (refine Below.setCell ?_ (by first | omega | (simp; done) | (simp; omega)) _) | (refine Below.drew ?_) | (refine Below.drewN ?_ _) | (refine Below.next (by assumption) ?_ (by first | omega | (simp; done) | (simp; omega)))))⟩
  obtain ⟨g1, g2, g3⟩ := srcOk_iff.1 h1
  cases h2 : srcOk M
  · go_enter Try.func25, Try.ntmps25
    go_wp2_with fail
    refine (areSources_any _ _ L _ hm hl).mono ?_
    rintro e w1 ⟨rfl, hq1⟩
    go_wp2_with fail
    refine (areSources_any _ _ M _ (hn.below hq1) hl2).mono ?_
    rintro e w2 ⟨rfl, hq2⟩
    have hz := hq1.size
    go_wp2
    go_ret2
    exact ⟨ret_pair (by simp [blV, h2]) rfl, by (repeat (first | exact Below.refl _ _ | assumption | (refine Below.alloc ?_ (by first | omega | (simp; done) | (simp; omega)) _) | (refine Below.setCell ?_ (by first | omega | (simp; done) | (simp; omega)) _) | (refine Below.drew ?_) | (refine Below.drewN ?_ _) | (refine Below.next (by assumption) ?_ (by first | omega | (simp; done) | (simp; omega)))))⟩
  obtain ⟨r1, r2, r3⟩ := srcOk_iff.1 h2
  have HV : Hid (blV L M = (argmin (sprs L M) M.length : Nat)) := Lib.hid (by simp [blV, h1, h2])
  go_enter Try.func25, Try.ntmps25
  go_wp2_with fail
  refine (areSources_any _ _ L _ hm hl).mono ?_
  rintro e w1 ⟨rfl, hq1⟩
  go_wp2_with fail
  refine (areSources_any _ _ M _ (hn.below hq1) hl2).mono ?_
  rintro e w2 ⟨rfl, hq2⟩
  have hz := hq1.size
  have hb2 : Below w.heap.size w w2 := by (repeat (first | exact Below.refl _ _ | assumption | (refine Below.alloc ?_ (by first | omega | (simp; done) | (simp; omega)) _) | (refine Below.setCell ?_ (by first | omega | (simp; done) | (simp; omega)) _) | (refine Below.drew ?_) | (refine Below.drewN ?_ _) | (refine Below.next (by assumption) ?_ (by first | omega | (simp; done) | (simp; omega)))))
  have HG := Lib.hid g1
  have HR := Lib.hid r1
  go_wp2
  clear h1 h2 g1 r1 hq1 hq2 hz
  go_loopw [6, 7, 8, 9, 10, 11, 22] (fun best least _ _ _ _ i wr => ∃ k m : Nat, ∃ x : Int, k ≤ M.length ∧ m < M.length ∧ i = .int .i64 k ∧ best = .int .i64 m ∧ least = .int .i64 x ∧ Below w.heap.size w wr ∧ Hid (argmin (sprs L M) k = m) ∧ Hid (0 < k → (sprs L M)[m]? = some x)) (fun _ _ _ _ _ _ i _ => M.length - (intOf i).toNat)
  case atStart => exact ⟨0, 0, 0, by omega, r3, rfl, rfl, rfl, hb2, Lib.hid rfl, Lib.hid (fun h => absurd h (by omega))⟩
  case round =>
    obtain ⟨k, m, x, hk, hml, rfl, rfl, rfl, hb, H, HX⟩ := hrel
    by_cases hlt : k < M.length
    · obtain ⟨s, hs⟩ := some_of_lt hlt
      obtain ⟨b, off, rfl, e1, e2⟩ := (hn.below hb).spot hs
      have hsg := all_at HR.out hs
      have hT := times_all HG.out hsg
      have HTT := Lib.hid hT
      have HS := Lib.hid hs
      clear hs hT
      have hsz := hb.size
      have hgo : (((k : Int) == 0) = true ∧ Hid (argmin (sprs L M) (k + 1) = k)) ∨ (((k : Int) == 0) = false ∧ spr L s < x ∧ Hid (argmin (sprs L M) (k + 1) = k)) ∨ (((k : Int) == 0) = false ∧ ¬ spr L s < x ∧ Hid (argmin (sprs L M) (k + 1) = m)) := by
        by_cases h0 : k = 0
        · subst h0
          exact .inl ⟨by simp, Lib.hid (by simp [argmin])⟩
        · have h := argmin_step (T := sprs L M) (k := k) (sprs_at HS.out) (u := x) (by rw [H.out]; exact HX.out (by omega))
          by_cases hc : spr L s < x
          · exact .inr (.inl ⟨by simpa using h0, hc, Lib.hid (by rw [h, if_pos hc])⟩)
          · exact .inr (.inr ⟨by simpa using h0, hc, Lib.hid (by rw [h, if_neg hc, H.out])⟩)
      rcases hgo with ⟨h0, HN⟩ | ⟨h0, hcmp, HN⟩ | ⟨h0, hcmp, HN⟩
      all_goals
        have hbl : b < wr.heap.size := World.block_lt_of_cell? wr _ e1
        go_wp2_with fail
        refine (timesAt_any _ _ L s _ (hm.below (by (repeat (first | exact Below.refl _ _ | assumption | (refine Below.alloc ?_ (by first | omega | (simp; done) | (simp; omega)) _) | (refine Below.setCell ?_ (by first | omega | (simp; done) | (simp; omega)) _) | (refine Below.drew ?_) | (refine Below.drewN ?_ _) | (refine Below.next (by assumption) ?_ (by first | omega | (simp; done) | (simp; omega))))))) g2 HG.out hsg).mono ?_
        rintro e w3 ⟨A', c', rfl, ho, hq⟩
        have hz := hq.size
        simp at hz
        have hq3 : Below w.heap.size w w3 := by (repeat (first | exact Below.refl _ _ | assumption | (refine Below.alloc ?_ (by first | omega | (simp; done) | (simp; omega)) _) | (refine Below.setCell ?_ (by first | omega | (simp; done) | (simp; omega)) _) | (refine Below.drew ?_) | (refine Below.drewN ?_ _) | (refine Below.next (by assumption) ?_ (by first | omega | (simp; done) | (simp; omega)))))
        go_wp2_with fail
        refine (spreadTimes_any _ _ L s _ (Mem.of_own ho) g2 g3 HTT.out).mono ?_
        rintro e w4 ⟨rfl, hq4⟩
        have hq5 : Below w.heap.size w w4 := by (repeat (first | exact Below.refl _ _ | assumption | (refine Below.alloc ?_ (by first | omega | (simp; done) | (simp; omega)) _) | (refine Below.setCell ?_ (by first | omega | (simp; done) | (simp; omega)) _) | (refine Below.drew ?_) | (refine Below.drewN ?_ _) | (refine Below.next (by assumption) ?_ (by first | omega | (simp; done) | (simp; omega)))))
        clear hq hz hq3 hq4 ho e1 e2
        go_wp2
        go_roundw
        case rel => first
          | exact ⟨k + 1, k, spr L s, by omega, hlt, by go_num, rfl, rfl, hq5, HN, Lib.hid (fun _ => sprs_at HS.out)⟩
          | exact ⟨k + 1, m, x, by omega, hml, by go_num, rfl, rfl, hq5, HN, Lib.hid (fun _ => HX.out (by simp at h0; omega))⟩
        case measure => simp [intOf]; omega
    · go_wp2
      go_ret2
      have e1 : k = M.length := by omega
      subst e1
      exact ⟨ret_pair (by rw [HV.out, H.out]) rfl, hb⟩
end Go.Proofs.Ytdipmjflgjlfeaa
