/-
  Contracts: CorrectedFor, the program's and the reference's.
-/
import Derived.Test.YtdipmjflgjlfeaaLic
namespace Go.Proofs.Ytdipmjflgjlfeaa
open Go.RowKit Go.Sort

theorem corr_at {L : List Sp} {a : Sp} {k : Nat} {t : Int} (h : (times L a)[k]? = some t) : (corr L a)[k]? = some (lowOf (times L a) - t) := by simp [corr, h]
/-- The first k are corrected, the rest are bare times. -/
def halfC (L : List Sp) (a : Sp) (k : Nat) : List Int := (corr L a).take k ++ (times L a).drop k
theorem halfC_len {L : List Sp} {a : Sp} {k : Nat} (hk : k ≤ L.length) : (halfC L a k).length = L.length := by
  simp [halfC, times_len, corr_len]
  omega
theorem halfC_at {L : List Sp} {a : Sp} {k : Nat} {t : Int} (h : (times L a)[k]? = some t) : (halfC L a k)[k]? = some t := by
  have hk : k < L.length := by have := (List.getElem?_eq_some_iff.1 h).1; rwa [times_len] at this
  have hl := corr_len L a
  have e1 : ((corr L a).take k).length = k := by simp; omega
  unfold halfC
  rw [List.getElem?_append_right (by omega), e1, Nat.sub_self, List.getElem?_drop, Nat.add_zero, h]
theorem halfC_set {L : List Sp} {a : Sp} {k : Nat} {t : Int} (h : (times L a)[k]? = some t) : (halfC L a k).set k (lowOf (times L a) - t) = halfC L a (k + 1) := by
  have hk0 := (List.getElem?_eq_some_iff.1 h).1
  have hk : k < L.length := by rwa [times_len] at hk0
  have hl := corr_len L a
  have e1 : ((corr L a).take k).length = k := by simp; omega
  have hd : (times L a).drop k = t :: (times L a).drop (k + 1) := by
    rw [List.drop_eq_getElem_cons hk0]
    rw [List.getElem?_eq_getElem hk0] at h
    rw [Option.some.inj h]
  unfold halfC
  rw [List.set_append_right _ _ (by omega), e1, Nat.sub_self, hd, List.set_cons_zero, corr_take h, List.append_assoc]
  rfl
theorem halfC_all {L : List Sp} {a : Sp} : halfC L a L.length = corr L a := by
  unfold halfC
  rw [List.take_of_length_le (by rw [corr_len]; omega), List.drop_of_length_le (by rw [times_len]; omega), List.append_nil]
def cfOk (L : List Sp) (a : Sp) : Bool := srcOk L && isSp a
theorem low_times {L : List Sp} {a : Sp} (h0 : 0 < L.length) (hL : L.all isSp = true) (ha : isSp a = true) : 0 ≤ lowOf (times L a) ∧ lowOf (times L a) ≤ 302 := low_bd (by rw [times_len]; exact h0) (times_all hL ha)

theorem lsEndsT_any (A : Option Addr) (c : Nat) (L : List Sp) (a : Sp) (w : World) (hm : Mem w A (ints (times L a))) (g2 : L.length ≤ 40) (h0 : 0 < L.length) (hL : L.all isSp = true) (ha : isSp a = true) : Calls Try.prog 98 #[.slice A L.length c] w fun e w' =>
    e = .returned (.tuple #[.int .i64 (lowOf (times L a)), .int .i64 (highOf (times L a))]) ∧ Below w.heap.size w w' := by
  have hl := times_len L a
  have := lsEnds_any A c (times L a) w hm (by omega) (by omega) (fun x hx => by have := times_all hL ha x hx; omega)
  rw [hl] at this
  exact this
theorem spreadT_any (A : Option Addr) (c : Nat) (L : List Sp) (a : Sp) (w : World) (hm : Mem w A (ints (times L a))) (g2 : L.length ≤ 40) (h0 : 0 < L.length) (hL : L.all isSp = true) (ha : isSp a = true) : Calls Try.prog 81 #[.slice A L.length c] w fun e w' =>
    e = .returned (.tuple #[.int .i64 (lowOf (times L a)), .int .i64 (highOf (times L a) - lowOf (times L a))]) ∧ Below w.heap.size w w' := by
  have hl := times_len L a
  have := spreadOf_any A c (times L a) w hm (by omega) (by omega) (fun x hx => by have := times_all hL ha x hx; omega)
  rw [hl] at this
  exact this
set_option maxRecDepth 100000 in
set_option maxHeartbeats 1600000 in
theorem spec_CorrectedFor_any (A : Option Addr) (c : Nat) (L : List Sp) (a : Sp) (w : World) (hm : Mem w A (spots L)) (hl : L.length ≤ 1048576) : Calls Try.prog 44 #[.slice A L.length c, .agg #[.int .i64 a.x, .int .i64 a.y]] w
    (RetInts w (cfV L a) (cfOk L a)) := by
  cases h1 : srcOk L
  · go_enter Try.func44, Try.ntmps44
    go_wp2_with (go_at_call 83; refine (snList_any _ _ L _ (hm.below (by (repeat (first | exact Below.refl _ _ | assumption | (refine Below.alloc ?_ (by first | omega | (simp; done) | (simp; omega)) _) | (refine Below.setCell ?_ (by first | omega | (simp; done) | (simp; omega)) _) | (refine Below.drew ?_) | (refine Below.drewN ?_ _) | (refine Below.next (by assumption) ?_ (by first | omega | (simp; done) | (simp; omega))))))) hl).mono ?_; rintro e w' ⟨rfl, hq⟩; obtain ⟨hz, hc, hf⟩ := bel hq; (try simp at hz); (try have gz1 : w.heap.size < w'.heap.size := by omega); (try have gz2 : w.heap.size + 1 < w'.heap.size := by omega); (try have gz3 : wr.heap.size < w'.heap.size := by omega))
    go_ret2
    exact RetInts.none_ (by simp [cfV, h1]) (by simp [cfOk, h1]) (by (repeat (first | exact Below.refl _ _ | assumption | (refine Below.alloc ?_ (by first | omega | (simp; done) | (simp; omega)) _) | (refine Below.setCell ?_ (by first | omega | (simp; done) | (simp; omega)) _) | (refine Below.drew ?_) | (refine Below.drewN ?_ _) | (refine Below.next (by assumption) ?_ (by first | omega | (simp; done) | (simp; omega))))))
  obtain ⟨r1, r2, r3⟩ := srcOk_iff.1 h1
  have H1 := Lib.hid h1
  cases h2 : isSp a
  · have H2 := Lib.hid h2
    go_enter Try.func44, Try.ntmps44
    go_wp2_with (first | (go_at_call 83; refine (snList_any _ _ L _ (hm.below (by (repeat (first | exact Below.refl _ _ | assumption | (refine Below.alloc ?_ (by first | omega | (simp; done) | (simp; omega)) _) | (refine Below.setCell ?_ (by first | omega | (simp; done) | (simp; omega)) _) | (refine Below.drew ?_) | (refine Below.drewN ?_ _) | (refine Below.next (by assumption) ?_ (by first | omega | (simp; done) | (simp; omega))))))) hl).mono ?_; rintro e w' ⟨rfl, hq⟩; obtain ⟨hz, hc, hf⟩ := bel hq; (try simp at hz); (try have gz1 : w.heap.size < w'.heap.size := by omega); (try have gz2 : w.heap.size + 1 < w'.heap.size := by omega); (try have gz3 : wr.heap.size < w'.heap.size := by omega)) | (go_at_call 84; refine (stGood_any _ _).mono ?_; rintro e w' ⟨rfl, o, rfl⟩))
    go_ret2
    exact RetInts.none_ (by simp [cfV, H2.out]) (by simp [cfOk, H2.out]) (by (repeat (first | exact Below.refl _ _ | assumption | (refine Below.alloc ?_ (by first | omega | (simp; done) | (simp; omega)) _) | (refine Below.setCell ?_ (by first | omega | (simp; done) | (simp; omega)) _) | (refine Below.drew ?_) | (refine Below.drewN ?_ _) | (refine Below.next (by assumption) ?_ (by first | omega | (simp; done) | (simp; omega))))))
  have HV : Hid (cfV L a = corr L a ∧ cfOk L a = true) := Lib.hid (by simp [cfV, cfOk, h1, h2])
  have hlo := low_times r3 r1 h2
  obtain ⟨i0, hi, hz0, hz1, hz2⟩ := info_parts info_int
  have HT := Lib.hid (fun x (hx : x ∈ times L a) => times_all r1 h2 x hx)
  go_enter Try.func44, Try.ntmps44
  go_wp2_with fail
  refine (snList_any _ _ L _ (hm.below (by (repeat (first | exact Below.refl _ _ | assumption | (refine Below.alloc ?_ (by first | omega | (simp; done) | (simp; omega)) _) | (refine Below.setCell ?_ (by first | omega | (simp; done) | (simp; omega)) _) | (refine Below.drew ?_) | (refine Below.drewN ?_ _) | (refine Below.next (by assumption) ?_ (by first | omega | (simp; done) | (simp; omega))))))) hl).mono ?_
  rintro e w1 ⟨eL, hq1⟩
  rw [H1.out] at eL
  subst eL
  have hs1 := hq1.size
  (try simp at hs1)
  have gz1 : w.heap.size < w1.heap.size := by omega
  have q1 : w1.cell? ⟨w.heap.size, 0, none⟩ = some (.int .i64 a.x) := (hq1.cell (by simp)).trans (by simp [go_sem])
  have q2 : w1.cell? ⟨w.heap.size, 1, none⟩ = some (.int .i64 a.y) := (hq1.cell (by simp)).trans (by simp [go_sem])
  have hB1 : Below (w.heap.size + 1) (w.alloc (.cells #[.int .i64 a.x, .int .i64 a.y] 25)) w1 := by (repeat (first | exact Below.refl _ _ | assumption | (refine Below.alloc ?_ (by first | omega | (simp; done) | (simp; omega)) _) | (refine Below.setCell ?_ (by first | omega | (simp; done) | (simp; omega)) _) | (refine Below.drew ?_) | (refine Below.drewN ?_ _) | (refine Below.next (by assumption) ?_ (by first | omega | (simp; done) | (simp; omega)))))
  have hB0 := (boxed hB1).1
  clear hq1
  go_wp2_with (go_at_call 84; refine (stGood_any _ _).mono ?_; rintro e w' ⟨rfl, o, rfl⟩)
  go_region_held3 (fun w' => w'.cell? ⟨w.heap.size, 0, none⟩ = some (.int .i64 a.x) ∧ w'.cell? ⟨w.heap.size, 1, none⟩ = some (.int .i64 a.y))
    (first | assumption | exact keep2 (by assumption) (by assumption) | (simp [go_sem, World.cell?_alloc_past, *]; done))
    (first
      | (refine upon_make _ 35 3 i0 (.int .i64 0) 1 Try.underlying35 hi hz0 hz1 _ L.length (by rw [hz2]; omega) (by unfold maxLen; omega) ?_; intro w3 ho3 hg3; have hq3 := grown_below hg3; replace ho3 := made_row (w1.heap.size + 1) ho3 (by simp); have hz3 := hq3.size; (try simp at hz3); (try have hS3 := keep2 hq3 (by assumption)))
      | (go_at_call 96; (refine (lsHeardZ_any _ _ L _ _ a _ (hm.below (by (repeat (first | exact Below.refl _ _ | assumption | (refine Below.alloc ?_ (by first | omega | (simp; done) | (simp; omega)) _) | (refine Below.setCell ?_ (by first | omega | (simp; done) | (simp; omega)) _) | (refine Below.drew ?_) | (refine Below.drewN ?_ _) | (refine Below.next (by assumption) ?_ (by first | omega | (simp; done) | (simp; omega))))))) ((Mem.of_own ho3).below (by (repeat (first | exact Below.refl _ _ | assumption | (refine Below.alloc ?_ (by first | omega | (simp; done) | (simp; omega)) _) | (refine Below.setCell ?_ (by first | omega | (simp; done) | (simp; omega)) _) | (refine Below.drew ?_) | (refine Below.drewN ?_ _) | (refine Below.next (by assumption) ?_ (by first | omega | (simp; done) | (simp; omega))))))) r2 r1 h2).mono ?_); rintro e w4 ⟨A4, c4, rfl, ho4, hq4⟩; have hz4 := hq4.size; (try simp at hz4); (try have hS4 := keep2 hq4 (by assumption))))
  go_wp2_with fail
  refine (lsEndsT_any _ _ L a _ ((Mem.of_own ho4).below (by (repeat (first | exact Below.refl _ _ | assumption | (refine Below.alloc ?_ (by first | omega | (simp; done) | (simp; omega)) _) | (refine Below.setCell ?_ (by first | omega | (simp; done) | (simp; omega)) _) | (refine Below.drew ?_) | (refine Below.drewN ?_ _) | (refine Below.next (by assumption) ?_ (by first | omega | (simp; done) | (simp; omega))))))) r2 r3 r1 h2).mono ?_
  rintro e w5 ⟨rfl, hq5⟩
  have hb5 : Below w.heap.size w w5 := by (repeat (first | exact Below.refl _ _ | assumption | (refine Below.alloc ?_ (by first | omega | (simp; done) | (simp; omega)) _) | (refine Below.setCell ?_ (by first | omega | (simp; done) | (simp; omega)) _) | (refine Below.drew ?_) | (refine Below.drewN ?_ _) | (refine Below.next (by assumption) ?_ (by first | omega | (simp; done) | (simp; omega)))))
  have hz5 := hq5.size
  (try simp at hz5)
  have ho5 := own_below (w' := w5) ho4 (by (repeat (first | exact Below.refl _ _ | assumption | (refine Below.alloc ?_ (by first | omega | (simp; done) | (simp; omega)) _) | (refine Below.setCell ?_ (by first | omega | (simp; done) | (simp; omega)) _) | (refine Below.drew ?_) | (refine Below.drewN ?_ _) | (refine Below.next (by assumption) ?_ (by first | omega | (simp; done) | (simp; omega))))))
  have HO5 := Lib.hid ho5
  have HZ : w.heap.size < w3.heap.size := by omega
  clear hq5 hq4 hq3 hg3 ho3 ho4 ho5 q1 q2 hB1 hB0 h1 h2
  go_wp2_with fail
  go_loopw [9, 11, 33] (fun v _ i wr => ∃ k : Nat, k ≤ L.length ∧ i = .int .i64 k ∧ wr.ownsRow w5.heap.size 3 1 v k (ints ((corr L a).take k)) ∧ Below w.heap.size w wr ∧ w5.heap.size ≤ wr.heap.size ∧ Far wr v A4 (ints (times L a))) (fun _ _ i _ => L.length - (intOf i).toNat)
  case atStart =>
    refine ⟨0, by omega, rfl, World.ownsRow_nil _ _ _ _, hb5, Nat.le_refl _, Far.of_own HO5.out (fun j hj => by cases hj)⟩
  case round =>
    obtain ⟨k, hk, rfl, hown, hb, hsz5, hfar⟩ := hrel
    have hsz := hb.size
    by_cases hlt : k < L.length
    · obtain ⟨t, ht⟩ := some_of_lt (L := times L a) (k := k) (by rw [times_len]; exact hlt)
      obtain ⟨b, off, rfl, e1⟩ := hfar.mem.int ht
      have htb := HT.out t (List.mem_of_getElem? ht)
      have HST := Lib.hid (corr_take ht)
      have HO := Lib.hid hown
      have HF := Lib.hid hfar
      clear ht hown hfar
      go_wp2_with (at_builtin; refine wpList_append_far _ rfl (.tmp 37) (.tmp 41) 35 rfl w5.heap.size 3 i0 (.int .i64 0) 1 8 Try.underlying35 hi hz0 hz1 hz2 rfl (by omega) _ _ _ rfl HO.out _ _ _ rfl rfl rfl (by omega) (by omega) (by omega) ?_; intro v' w6 hown' hb6 hfar')
      go_roundw
      case rel => exact ⟨k + 1, by omega, by go_num, by rw [HST.out, ints_snoc]; exact hown', hb.trans (hb6.mono (by omega)), by have := hb6.size; omega, hfar' _ _ HF.out⟩
      case measure => simp [intOf]; omega
    · go_wp2
      go_ret2
      have e1 : k = L.length := by omega
      subst e1
      rw [List.take_of_length_le (by rw [corr_len]; omega)] at hown
      exact RetInts.some_ HV.out.2 HV.out.1 hown (corr_len L a).symm (by omega) hb

set_option maxRecDepth 100000 in
set_option maxHeartbeats 1600000 in
theorem impl_CorrectedFor_any (A : Option Addr) (c : Nat) (L : List Sp) (a : Sp) (w : World) (hm : Mem w A (spots L)) (hl : L.length ≤ 1048576) : Calls Try.prog 43 #[.slice A L.length c, .agg #[.int .i64 a.x, .int .i64 a.y]] w
    (RetInts w (cfV L a) (cfOk L a)) := by
  cases h1 : srcOk L
  · go_enter Try.func43, Try.ntmps43
    go_wp2_with (go_at_call 80; refine (areSources_any _ _ L _ (hm.below (by (repeat (first | exact Below.refl _ _ | assumption | (refine Below.alloc ?_ (by first | omega | (simp; done) | (simp; omega)) _) | (refine Below.setCell ?_ (by first | omega | (simp; done) | (simp; omega)) _) | (refine Below.drew ?_) | (refine Below.drewN ?_ _) | (refine Below.next (by assumption) ?_ (by first | omega | (simp; done) | (simp; omega))))))) hl).mono ?_; rintro e w' ⟨rfl, hq⟩; obtain ⟨hz, hc, hf⟩ := bel hq; (try simp at hz); (try have gz1 : w.heap.size < w'.heap.size := by omega); (try have gz2 : w.heap.size + 1 < w'.heap.size := by omega); (try have gz3 : wr.heap.size < w'.heap.size := by omega))
    go_ret2
    exact RetInts.none_ (by simp [cfV, h1]) (by simp [cfOk, h1]) (by (repeat (first | exact Below.refl _ _ | assumption | (refine Below.alloc ?_ (by first | omega | (simp; done) | (simp; omega)) _) | (refine Below.setCell ?_ (by first | omega | (simp; done) | (simp; omega)) _) | (refine Below.drew ?_) | (refine Below.drewN ?_ _) | (refine Below.next (by assumption) ?_ (by first | omega | (simp; done) | (simp; omega))))))
  obtain ⟨r1, r2, r3⟩ := srcOk_iff.1 h1
  have H1 := Lib.hid h1
  cases h2 : isSp a
  · have H2 := Lib.hid h2
    go_enter Try.func43, Try.ntmps43
    go_wp2_with (first | (go_at_call 80; refine (areSources_any _ _ L _ (hm.below (by (repeat (first | exact Below.refl _ _ | assumption | (refine Below.alloc ?_ (by first | omega | (simp; done) | (simp; omega)) _) | (refine Below.setCell ?_ (by first | omega | (simp; done) | (simp; omega)) _) | (refine Below.drew ?_) | (refine Below.drewN ?_ _) | (refine Below.next (by assumption) ?_ (by first | omega | (simp; done) | (simp; omega))))))) hl).mono ?_; rintro e w' ⟨rfl, hq⟩; obtain ⟨hz, hc, hf⟩ := bel hq; (try simp at hz); (try have gz1 : w.heap.size < w'.heap.size := by omega); (try have gz2 : w.heap.size + 1 < w'.heap.size := by omega); (try have gz3 : wr.heap.size < w'.heap.size := by omega)) | (go_at_call 73; refine (isSpot_any _ _).mono ?_; rintro e w' ⟨rfl, o, rfl⟩))
    go_ret2
    exact RetInts.none_ (by simp [cfV, H2.out]) (by simp [cfOk, H2.out]) (by (repeat (first | exact Below.refl _ _ | assumption | (refine Below.alloc ?_ (by first | omega | (simp; done) | (simp; omega)) _) | (refine Below.setCell ?_ (by first | omega | (simp; done) | (simp; omega)) _) | (refine Below.drew ?_) | (refine Below.drewN ?_ _) | (refine Below.next (by assumption) ?_ (by first | omega | (simp; done) | (simp; omega))))))
  have HV : Hid (cfV L a = corr L a ∧ cfOk L a = true) := Lib.hid (by simp [cfV, cfOk, h1, h2])
  have hlo := low_times r3 r1 h2
  have HT := Lib.hid (fun x (hx : x ∈ times L a) => times_all r1 h2 x hx)
  go_enter Try.func43, Try.ntmps43
  go_wp2_with (first | (go_at_call 80; refine (areSources_any _ _ L _ (hm.below (by (repeat (first | exact Below.refl _ _ | assumption | (refine Below.alloc ?_ (by first | omega | (simp; done) | (simp; omega)) _) | (refine Below.setCell ?_ (by first | omega | (simp; done) | (simp; omega)) _) | (refine Below.drew ?_) | (refine Below.drewN ?_ _) | (refine Below.next (by assumption) ?_ (by first | omega | (simp; done) | (simp; omega))))))) hl).mono ?_; rintro e w' ⟨rfl, hq⟩; obtain ⟨hz, hc, hf⟩ := bel hq; (try simp at hz); (try have gz1 : w.heap.size < w'.heap.size := by omega); (try have gz2 : w.heap.size + 1 < w'.heap.size := by omega); (try have gz3 : wr.heap.size < w'.heap.size := by omega)) | (go_at_call 73; refine (isSpot_any _ _).mono ?_; rintro e w' ⟨rfl, o, rfl⟩))
  refine (timesAt_any _ _ L a _ (hm.below (by (repeat (first | exact Below.refl _ _ | assumption | (refine Below.alloc ?_ (by first | omega | (simp; done) | (simp; omega)) _) | (refine Below.setCell ?_ (by first | omega | (simp; done) | (simp; omega)) _) | (refine Below.drew ?_) | (refine Below.drewN ?_ _) | (refine Below.next (by assumption) ?_ (by first | omega | (simp; done) | (simp; omega))))))) r2 r1 h2).mono ?_
  rintro e w4 ⟨A4, c4, rfl, ho4, hq4⟩
  have hz4 := hq4.size
  (try simp at hz4)
  have hb4 : Below w.heap.size w w4 := by (repeat (first | exact Below.refl _ _ | assumption | (refine Below.alloc ?_ (by first | omega | (simp; done) | (simp; omega)) _) | (refine Below.setCell ?_ (by first | omega | (simp; done) | (simp; omega)) _) | (refine Below.drew ?_) | (refine Below.drewN ?_ _) | (refine Below.next (by assumption) ?_ (by first | omega | (simp; done) | (simp; omega)))))
  go_wp2_with fail
  refine (spreadT_any _ _ L a _ (Mem.of_own ho4) r2 r3 r1 h2).mono ?_
  rintro e w5 ⟨rfl, hq5⟩
  have hb5 : Below w.heap.size w w5 := by (repeat (first | exact Below.refl _ _ | assumption | (refine Below.alloc ?_ (by first | omega | (simp; done) | (simp; omega)) _) | (refine Below.setCell ?_ (by first | omega | (simp; done) | (simp; omega)) _) | (refine Below.drew ?_) | (refine Below.drewN ?_ _) | (refine Below.next (by assumption) ?_ (by first | omega | (simp; done) | (simp; omega)))))
  have ho5 := own_base (own_below (w' := w5) ho4 (by (repeat (first | exact Below.refl _ _ | assumption | (refine Below.alloc ?_ (by first | omega | (simp; done) | (simp; omega)) _) | (refine Below.setCell ?_ (by first | omega | (simp; done) | (simp; omega)) _) | (refine Below.drew ?_) | (refine Below.drewN ?_ _) | (refine Below.next (by assumption) ?_ (by first | omega | (simp; done) | (simp; omega))))))) (base' := w.heap.size) (by (try simp); omega)
  have e0 : Hid (times L a = halfC L a 0) := Lib.hid (by simp [halfC])
  clear hq5 hq4 ho4 hq hz hc hf h1 h2 hz4
  go_wp2_with fail
  go_loopw [9, 10, 29] (fun _ _ i wr => ∃ k : Nat, k ≤ L.length ∧ i = .int .i64 k ∧ wr.ownsRow w.heap.size 3 1 (.slice A4 L.length c4) L.length (ints (halfC L a k)) ∧ Below w.heap.size w wr) (fun _ _ i _ => L.length - (intOf i).toNat)
  case atStart => exact ⟨0, by omega, rfl, e0.out ▸ ho5, hb5⟩
  case round =>
    obtain ⟨k, hk, rfl, hown, hb⟩ := hrel
    by_cases hlt : k < L.length
    · obtain ⟨t, ht⟩ := some_of_lt (L := times L a) (k := k) (by rw [times_len]; exact hlt)
      obtain ⟨g, rfl, hg1, hg2⟩ := own_addr hown (by omega)
      have htb := HT.out t (List.mem_of_getElem? ht)
      have hcell : wr.cell? ⟨g, k, none⟩ = some (.int .i64 t) := own_int hown (halfC_at ht)
      have hfz := hown.frozenAt k
      have hst := (hown.stored k (.int .i64 (lowOf (times L a) - t))).1
      rw [← ints_set, halfC_set ht] at hst
      have HST := Lib.hid hst
      clear ht hown hst
      go_wp2
      go_roundw
      case rel => exact ⟨k + 1, by omega, by go_num, HST.out, hb.setCell hg1 _⟩
      case measure => simp [intOf]; omega
    · go_wp2
      go_ret2
      have e1 : k = L.length := by omega
      subst e1
      rw [halfC_all] at hown
      exact RetInts.some_ HV.out.2 HV.out.1 hown (corr_len L a).symm (Nat.le_refl _) hb
end Go.Proofs.Ytdipmjflgjlfeaa
