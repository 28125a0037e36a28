/-
  Contracts: EvenCircle, the program's and the reference's.
-/
import Derived.Test.YtdipmjflgjlfeaaSnde
namespace Go.Proofs.Ytdipmjflgjlfeaa
open Go.RowKit Go.Sort

def ecV (L : List Sp) (a : Sp) (most : Int) : List Int := if (srcOk L && isSp a) && inR most 0 1000 then upto (times L a) (lowOf (times L a) + most) L.length else []

set_option maxRecDepth 100000 in
theorem spec_EvenCircle_any (A : Option Addr) (c : Nat) (L : List Sp) (a : Sp) (m : Int) (w : World) (hm : Mem w A (spots L)) (hl : L.length ≤ 1048576) : Calls Try.prog 29 #[.slice A L.length c, .agg #[.int .i64 a.x, .int .i64 a.y], .int .i64 m] w
    (RetInts w (ecV L a m) ((srcOk L && isSp a) && inR m 0 1000)) := by
  cases h1 : srcOk L
  · go_enter Try.func29, Try.ntmps29
    go_wp2_with (go_at_call 83; refine (snList_any _ _ L _ (hm.below (by (repeat (first | exact Below.refl _ _ | assumption | (refine Below.alloc ?_ (by first | omega | (simp; done) | (simp; omega)) _) | (refine Below.setCell ?_ (by first | omega | (simp; done) | (simp; omega)) _) | (refine Below.drew ?_) | (refine Below.drewN ?_ _) | (refine Below.next (by assumption) ?_ (by first | omega | (simp; done) | (simp; omega))))))) hl).mono ?_; rintro e w' ⟨rfl, hq⟩; obtain ⟨hz, hc, hf⟩ := bel hq; (try simp at hz); (try have gz1 : w.heap.size < w'.heap.size := by omega); (try have gz2 : w.heap.size + 1 < w'.heap.size := by omega); (try have gz3 : wr.heap.size < w'.heap.size := by omega))
    go_ret2
    exact RetInts.none_ (by simp [ecV, h1]) rfl (by (repeat (first | exact Below.refl _ _ | assumption | (refine Below.alloc ?_ (by first | omega | (simp; done) | (simp; omega)) _) | (refine Below.setCell ?_ (by first | omega | (simp; done) | (simp; omega)) _) | (refine Below.drew ?_) | (refine Below.drewN ?_ _) | (refine Below.next (by assumption) ?_ (by first | omega | (simp; done) | (simp; omega))))))
  obtain ⟨g1, g2, g3⟩ := srcOk_iff.1 h1
  cases h2 : isSp a
  · go_enter Try.func29, Try.ntmps29
    go_wp2_with (first | (go_at_call 83; refine (snList_any _ _ L _ (hm.below (by (repeat (first | exact Below.refl _ _ | assumption | (refine Below.alloc ?_ (by first | omega | (simp; done) | (simp; omega)) _) | (refine Below.setCell ?_ (by first | omega | (simp; done) | (simp; omega)) _) | (refine Below.drew ?_) | (refine Below.drewN ?_ _) | (refine Below.next (by assumption) ?_ (by first | omega | (simp; done) | (simp; omega))))))) hl).mono ?_; rintro e w' ⟨rfl, hq⟩; obtain ⟨hz, hc, hf⟩ := bel hq; (try simp at hz); (try have gz1 : w.heap.size < w'.heap.size := by omega); (try have gz2 : w.heap.size + 1 < w'.heap.size := by omega); (try have gz3 : wr.heap.size < w'.heap.size := by omega)) | (go_at_call 84; refine (stGood_any _ _).mono ?_; rintro e w' ⟨rfl, o, rfl⟩))
    go_ret2
    exact RetInts.none_ (by simp [ecV, h2]) rfl (by (repeat (first | exact Below.refl _ _ | assumption | (refine Below.alloc ?_ (by first | omega | (simp; done) | (simp; omega)) _) | (refine Below.setCell ?_ (by first | omega | (simp; done) | (simp; omega)) _) | (refine Below.drew ?_) | (refine Below.drewN ?_ _) | (refine Below.next (by assumption) ?_ (by first | omega | (simp; done) | (simp; omega))))))
  cases h3 : inR m 0 1000
  · go_enter Try.func29, Try.ntmps29
    go_wp2_with (first | (go_at_call 83; refine (snList_any _ _ L _ (hm.below (by (repeat (first | exact Below.refl _ _ | assumption | (refine Below.alloc ?_ (by first | omega | (simp; done) | (simp; omega)) _) | (refine Below.setCell ?_ (by first | omega | (simp; done) | (simp; omega)) _) | (refine Below.drew ?_) | (refine Below.drewN ?_ _) | (refine Below.next (by assumption) ?_ (by first | omega | (simp; done) | (simp; omega))))))) hl).mono ?_; rintro e w' ⟨rfl, hq⟩; obtain ⟨hz, hc, hf⟩ := bel hq; (try simp at hz); (try have gz1 : w.heap.size < w'.heap.size := by omega); (try have gz2 : w.heap.size + 1 < w'.heap.size := by omega); (try have gz3 : wr.heap.size < w'.heap.size := by omega)) | (go_at_call 84; refine (stGood_any _ _).mono ?_; rintro e w' ⟨rfl, o, rfl⟩) | (go_at_call 86; refine (snIn_any _ _).mono ?_; rintro e w' ⟨rfl, rfl⟩))
    go_ret2
    exact RetInts.none_ (by simp [ecV, h3]) rfl (by (repeat (first | exact Below.refl _ _ | assumption | (refine Below.alloc ?_ (by first | omega | (simp; done) | (simp; omega)) _) | (refine Below.setCell ?_ (by first | omega | (simp; done) | (simp; omega)) _) | (refine Below.drew ?_) | (refine Below.drewN ?_ _) | (refine Below.next (by assumption) ?_ (by first | omega | (simp; done) | (simp; omega))))))
  · have HV : Hid (ecV L a m = upto (times L a) (lowOf (times L a) + m) L.length) := Lib.hid (by simp [ecV, h1, h2, h3])
    have b1 := low_bd (L := times L a) (m := 0) (M := 302) (by rw [times_len]; exact g3) (times_all g1 h2)
    have b3 := inR_iff.1 h3
    go_enter Try.func29, Try.ntmps29
    go_wp2_with (first | (first | (go_at_call 83; refine (snList_any _ _ L _ (hm.below (by (repeat (first | exact Below.refl _ _ | assumption | (refine Below.alloc ?_ (by first | omega | (simp; done) | (simp; omega)) _) | (refine Below.setCell ?_ (by first | omega | (simp; done) | (simp; omega)) _) | (refine Below.drew ?_) | (refine Below.drewN ?_ _) | (refine Below.next (by assumption) ?_ (by first | omega | (simp; done) | (simp; omega))))))) hl).mono ?_; rintro e w' ⟨rfl, hq⟩; obtain ⟨hz, hc, hf⟩ := bel hq; (try simp at hz); (try have gz1 : w.heap.size < w'.heap.size := by omega); (try have gz2 : w.heap.size + 1 < w'.heap.size := by omega); (try have gz3 : wr.heap.size < w'.heap.size := by omega)) | (go_at_call 84; refine (stGood_any _ _).mono ?_; rintro e w' ⟨rfl, o, rfl⟩) | (go_at_call 86; refine (snIn_any _ _).mono ?_; rintro e w' ⟨rfl, rfl⟩)) | (go_at_call 90; refine (snEnds_any _ _ L a _ (hm.below (by (repeat (first | exact Below.refl _ _ | assumption | (refine Below.alloc ?_ (by first | omega | (simp; done) | (simp; omega)) _) | (refine Below.setCell ?_ (by first | omega | (simp; done) | (simp; omega)) _) | (refine Below.drew ?_) | (refine Below.drewN ?_ _) | (refine Below.next (by assumption) ?_ (by first | omega | (simp; done) | (simp; omega))))))) g2 g3 g1 h2).mono ?_; rintro e w' ⟨rfl, hq⟩; obtain ⟨hz, hc, hf⟩ := bel hq; (try simp at hz); (try have gz1 : w.heap.size < w'.heap.size := by omega); (try have gz2 : w.heap.size + 1 < w'.heap.size := by omega); (try have gz3 : wr.heap.size < w'.heap.size := by omega)) | (go_at_call 87; refine (snWithin_any _ _ L a (lowOf (times L a) + m) _ (hm.below (by (repeat (first | exact Below.refl _ _ | assumption | (refine Below.alloc ?_ (by first | omega | (simp; done) | (simp; omega)) _) | (refine Below.setCell ?_ (by first | omega | (simp; done) | (simp; omega)) _) | (refine Below.drew ?_) | (refine Below.drewN ?_ _) | (refine Below.next (by assumption) ?_ (by first | omega | (simp; done) | (simp; omega))))))) g2 g1 h2).mono ?_; rintro e w' ⟨A', c', rfl, ho, hq⟩; have hz := hq.size; (try simp at hz); (try have gz1 : w.heap.size < w'.heap.size := by omega); (try have gz2 : w.heap.size + 1 < w'.heap.size := by omega); (try have gz3 : wr.heap.size < w'.heap.size := by omega)))
    go_ret2
    exact RetInts.some_ rfl HV.out ho rfl (by first | omega | (simp; done) | (simp; omega)) (by (repeat (first | exact Below.refl _ _ | assumption | (refine Below.alloc ?_ (by first | omega | (simp; done) | (simp; omega)) _) | (refine Below.setCell ?_ (by first | omega | (simp; done) | (simp; omega)) _) | (refine Below.drew ?_) | (refine Below.drewN ?_ _) | (refine Below.next (by assumption) ?_ (by first | omega | (simp; done) | (simp; omega))))))

set_option maxHeartbeats 800000 in
set_option maxRecDepth 100000 in
theorem impl_EvenCircle_any (A : Option Addr) (c : Nat) (L : List Sp) (a : Sp) (m : Int) (w : World) (hm : Mem w A (spots L)) (hl : L.length ≤ 1048576) : Calls Try.prog 28 #[.slice A L.length c, .agg #[.int .i64 a.x, .int .i64 a.y], .int .i64 m] w
    (RetInts w (ecV L a m) ((srcOk L && isSp a) && inR m 0 1000)) := by
  cases h1 : srcOk L
  · go_enter Try.func28, Try.ntmps28
    go_wp2_with (go_at_call 80; refine (areSources_any _ _ L _ (hm.below (by (repeat (first | exact Below.refl _ _ | assumption | (refine Below.alloc ?_ (by first | omega | (simp; done) | (simp; omega)) _) | (refine Below.setCell ?_ (by first | omega | (simp; done) | (simp; omega)) _) | (refine Below.drew ?_) | (refine Below.drewN ?_ _) | (refine Below.next (by assumption) ?_ (by first | omega | (simp; done) | (simp; omega))))))) hl).mono ?_; rintro e w' ⟨rfl, hq⟩; obtain ⟨hz, hc, hf⟩ := bel hq; (try simp at hz); (try have gz1 : w.heap.size < w'.heap.size := by omega); (try have gz2 : w.heap.size + 1 < w'.heap.size := by omega); (try have gz3 : wr.heap.size < w'.heap.size := by omega))
    go_ret2
    exact RetInts.none_ (by simp [ecV, h1]) rfl (by (repeat (first | exact Below.refl _ _ | assumption | (refine Below.alloc ?_ (by first | omega | (simp; done) | (simp; omega)) _) | (refine Below.setCell ?_ (by first | omega | (simp; done) | (simp; omega)) _) | (refine Below.drew ?_) | (refine Below.drewN ?_ _) | (refine Below.next (by assumption) ?_ (by first | omega | (simp; done) | (simp; omega))))))
  obtain ⟨g1, g2, g3⟩ := srcOk_iff.1 h1
  cases h2 : isSp a
  · go_enter Try.func28, Try.ntmps28
    go_wp2_with (first | (go_at_call 80; refine (areSources_any _ _ L _ (hm.below (by (repeat (first | exact Below.refl _ _ | assumption | (refine Below.alloc ?_ (by first | omega | (simp; done) | (simp; omega)) _) | (refine Below.setCell ?_ (by first | omega | (simp; done) | (simp; omega)) _) | (refine Below.drew ?_) | (refine Below.drewN ?_ _) | (refine Below.next (by assumption) ?_ (by first | omega | (simp; done) | (simp; omega))))))) hl).mono ?_; rintro e w' ⟨rfl, hq⟩; obtain ⟨hz, hc, hf⟩ := bel hq; (try simp at hz); (try have gz1 : w.heap.size < w'.heap.size := by omega); (try have gz2 : w.heap.size + 1 < w'.heap.size := by omega); (try have gz3 : wr.heap.size < w'.heap.size := by omega)) | (go_at_call 73; refine (isSpot_any _ _).mono ?_; rintro e w' ⟨rfl, o, rfl⟩))
    go_ret2
    exact RetInts.none_ (by simp [ecV, h2]) rfl (by (repeat (first | exact Below.refl _ _ | assumption | (refine Below.alloc ?_ (by first | omega | (simp; done) | (simp; omega)) _) | (refine Below.setCell ?_ (by first | omega | (simp; done) | (simp; omega)) _) | (refine Below.drew ?_) | (refine Below.drewN ?_ _) | (refine Below.next (by assumption) ?_ (by first | omega | (simp; done) | (simp; omega))))))
  cases h3 : inR m 0 1000
  · go_enter Try.func28, Try.ntmps28
    go_wp2_with (first | (go_at_call 80; refine (areSources_any _ _ L _ (hm.below (by (repeat (first | exact Below.refl _ _ | assumption | (refine Below.alloc ?_ (by first | omega | (simp; done) | (simp; omega)) _) | (refine Below.setCell ?_ (by first | omega | (simp; done) | (simp; omega)) _) | (refine Below.drew ?_) | (refine Below.drewN ?_ _) | (refine Below.next (by assumption) ?_ (by first | omega | (simp; done) | (simp; omega))))))) hl).mono ?_; rintro e w' ⟨rfl, hq⟩; obtain ⟨hz, hc, hf⟩ := bel hq; (try simp at hz); (try have gz1 : w.heap.size < w'.heap.size := by omega); (try have gz2 : w.heap.size + 1 < w'.heap.size := by omega); (try have gz3 : wr.heap.size < w'.heap.size := by omega)) | (go_at_call 73; refine (isSpot_any _ _).mono ?_; rintro e w' ⟨rfl, o, rfl⟩) | (go_at_call 78; refine (within_any _ _ _ _).mono ?_; rintro e w' ⟨rfl, rfl⟩))
    go_ret2
    exact RetInts.none_ (by simp [ecV, h3]) rfl (by (repeat (first | exact Below.refl _ _ | assumption | (refine Below.alloc ?_ (by first | omega | (simp; done) | (simp; omega)) _) | (refine Below.setCell ?_ (by first | omega | (simp; done) | (simp; omega)) _) | (refine Below.drew ?_) | (refine Below.drewN ?_ _) | (refine Below.next (by assumption) ?_ (by first | omega | (simp; done) | (simp; omega))))))
  have HV : Hid (ecV L a m = upto (times L a) (lowOf (times L a) + m) L.length) := Lib.hid (by simp [ecV, h1, h2, h3])
  have b1 := low_bd (L := times L a) (m := 0) (M := 302) (by rw [times_len]; exact g3) (times_all g1 h2)
  have b3 := inR_iff.1 h3
  have hT := times_all g1 h2
  have HT := Lib.hid hT
  obtain ⟨i0, hi, hz0, hz1, hz2⟩ := info_parts info_int
  go_enter Try.func28, Try.ntmps28
  go_wp2_with (first | (go_at_call 80; refine (areSources_any _ _ L _ (hm.below (by (repeat (first | exact Below.refl _ _ | assumption | (refine Below.alloc ?_ (by first | omega | (simp; done) | (simp; omega)) _) | (refine Below.setCell ?_ (by first | omega | (simp; done) | (simp; omega)) _) | (refine Below.drew ?_) | (refine Below.drewN ?_ _) | (refine Below.next (by assumption) ?_ (by first | omega | (simp; done) | (simp; omega))))))) hl).mono ?_; rintro e w' ⟨rfl, hq⟩; obtain ⟨hz, hc, hf⟩ := bel hq; (try simp at hz); (try have gz1 : w.heap.size < w'.heap.size := by omega); (try have gz2 : w.heap.size + 1 < w'.heap.size := by omega); (try have gz3 : wr.heap.size < w'.heap.size := by omega)) | (go_at_call 73; refine (isSpot_any _ _).mono ?_; rintro e w' ⟨rfl, o, rfl⟩) | (go_at_call 78; refine (within_any _ _ _ _).mono ?_; rintro e w' ⟨rfl, rfl⟩) | (go_at_call 82; refine (timesAt_any _ _ L a _ (hm.below (by (repeat (first | exact Below.refl _ _ | assumption | (refine Below.alloc ?_ (by first | omega | (simp; done) | (simp; omega)) _) | (refine Below.setCell ?_ (by first | omega | (simp; done) | (simp; omega)) _) | (refine Below.drew ?_) | (refine Below.drewN ?_ _) | (refine Below.next (by assumption) ?_ (by first | omega | (simp; done) | (simp; omega))))))) g2 g1 h2).mono ?_; rintro e w' ⟨A', c', rfl, ho, hq⟩; obtain ⟨hz, hc, hf⟩ := bel hq; (try simp at hz); (try have gz1 : w.heap.size < w'.heap.size := by omega); (try have gz2 : w.heap.size + 1 < w'.heap.size := by omega); (try have gz3 : wr.heap.size < w'.heap.size := by omega)))
  have hlt0 : ∀ j, A' = some j → j.block < w'.heap.size := fun j hj => by subst hj; exact (ho.lt _ rfl).2
  have HO := Lib.hid ho
  have HL0 := Lib.hid hlt0
  have hb0 : Below w.heap.size w w' := by (repeat (first | exact Below.refl _ _ | assumption | (refine Below.alloc ?_ (by first | omega | (simp; done) | (simp; omega)) _) | (refine Below.setCell ?_ (by first | omega | (simp; done) | (simp; omega)) _) | (refine Below.drew ?_) | (refine Below.drewN ?_ _) | (refine Below.next (by assumption) ?_ (by first | omega | (simp; done) | (simp; omega)))))
  clear ho hlt0 hT
  refine (spreadTimes_any _ _ L a _ (Mem.below (Mem.of_own HO.out) (by (repeat (first | exact Below.refl _ _ | assumption | (refine Below.alloc ?_ (by first | omega | (simp; done) | (simp; omega)) _) | (refine Below.setCell ?_ (by first | omega | (simp; done) | (simp; omega)) _) | (refine Below.drew ?_) | (refine Below.drewN ?_ _) | (refine Below.next (by assumption) ?_ (by first | omega | (simp; done) | (simp; omega))))))) g2 g3 HT.out).mono ?_
  rintro e w5 ⟨rfl, hq5⟩
  have hz5 := hq5.size
  simp at hz5
  have HB5 := Lib.hid (show Below w.heap.size w w5 by (repeat (first | exact Below.refl _ _ | assumption | (refine Below.alloc ?_ (by first | omega | (simp; done) | (simp; omega)) _) | (refine Below.setCell ?_ (by first | omega | (simp; done) | (simp; omega)) _) | (refine Below.drew ?_) | (refine Below.drewN ?_ _) | (refine Below.next (by assumption) ?_ (by first | omega | (simp; done) | (simp; omega))))))
  go_wp2
  go_loopw [9, 12, 13, 38] (fun v _ _ i wr => ∃ k n : Nat, k ≤ L.length ∧ n ≤ 40 ∧ i = .int .i64 k ∧ wr.ownsRow w.heap.size 3 1 v n (ints (upto (times L a) (lowOf (times L a) + m) k)) ∧ Hid (n = (upto (times L a) (lowOf (times L a) + m) k).length) ∧ Below w.heap.size w wr ∧ Far wr v A' (ints (times L a))) (fun _ _ _ i _ => L.length - (intOf i).toNat)
  case atStart =>
    refine ⟨0, 0, by omega, by omega, rfl, ?_, Lib.hid (by rw [upto, pick_zero]; rfl), HB5.out, ?_⟩
    · rw [upto, pick_zero]
      exact own_below (own_empty _ _ rfl (by omega) rfl) hq5
    · refine ⟨Mem.below (w := w') (Mem.of_own HO.out) (((Below.refl _ _).alloc (Nat.le_refl _) _).trans (hq5.mono (by simp))), fun b o e => ?_, fun j b o hj e => ?_⟩
      · have := HL0.out _ e
        simp at this
        omega
      · have := HL0.out _ e
        simp [Value.ownBlock] at hj this
        omega
  case round =>
    obtain ⟨k, n, hk, hn, rfl, hown, HN, hb, hfar⟩ := hrel
    have hsz := hb.size
    by_cases hlt : k < L.length
    · obtain ⟨s, hs⟩ := some_of_lt (L := times L a) (k := k) (by rw [times_len]; exact hlt)
      obtain ⟨b, off, rfl, e1⟩ := hfar.mem.int hs
      have hstep := upto_succ (m := lowOf (times L a) + m) hs
      have hlen := upto_len (times L a) (lowOf (times L a) + m) (k + 1)
      have hsb := HT.out s (List.mem_of_getElem? hs)
      rw [times_len] at hlen
      have HST := Lib.hid hstep
      have HLN := Lib.hid hlen
      have HO := Lib.hid hown
      have HF := Lib.hid hfar
      clear hs hown hstep hlen hfar
      by_cases hcmp : s - lowOf (times L a) ≤ m
      · go_wp2_with (at_builtin; refine wpList_append_far _ rfl (.tmp 48) (.tmp 50) 35 rfl w.heap.size 3 i0 (.int .i64 0) 1 8 Try.underlying35 hi hz0 hz1 hz2 rfl (by omega) _ _ _ rfl HO.out _ _ _ rfl rfl rfl (by omega) (by omega) (by omega) ?_; intro v' w2 hown' hb2 hfar')
        go_roundw
        case rel =>
          have e3 := HST.out
          rw [if_pos (by omega)] at e3
          have e4 := HLN.out
          rw [e3] at e4
          have e5 := HN.out
          simp at e4
          exact ⟨k + 1, n + 1, by omega, by omega, by go_num, by rw [e3, ints_snoc]; exact hown', Lib.hid (by rw [e3, List.length_append, e5]; rfl), hb.trans hb2, hfar' _ _ HF.out⟩
        case measure => simp [intOf]; omega
      · go_wp2
        go_roundw
        case rel =>
          have e3 := HST.out
          rw [if_neg (by omega)] at e3
          exact ⟨k + 1, n, by omega, hn, by go_num, by rw [e3]; exact HO.out, Lib.hid (by rw [e3]; exact HN.out), hb, HF.out⟩
        case measure => simp [intOf]; omega
    · go_wp2
      go_ret2
      have e1 : k = L.length := by omega
      subst e1
      exact RetInts.some_ rfl HV.out hown HN.out (by omega) hb
end Go.Proofs.Ytdipmjflgjlfeaa
