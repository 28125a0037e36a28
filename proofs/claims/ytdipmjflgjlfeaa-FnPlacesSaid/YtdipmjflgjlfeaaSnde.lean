/-
  Contracts: HeardWithin, EvenCircle, the program's and the reference's.
-/
import Derived.Test.YtdipmjflgjlfeaaSndd
import Derived.Test.YtdipmjflgjlfeaaApp
import Derived.Test.YtdipmjflgjlfeaaRet
namespace Go.Proofs.Ytdipmjflgjlfeaa
open Go.RowKit Go.Sort

/-- Those of a list of times that are at most so great. -/
def upto (T : List Int) (m : Int) (k : Nat) : List Int := pick (fun _ t => decide (t ≤ m)) T k
theorem upto_succ {T : List Int} {m : Int} {k : Nat} {t : Int} (h : T[k]? = some t) : upto T m (k + 1) = if t ≤ m then upto T m k ++ [(k : Int)] else upto T m k := by
  unfold upto
  rw [pick_succ h]
  by_cases hc : t ≤ m <;> simp [hc]
theorem upto_len (T : List Int) (m : Int) (k : Nat) : (upto T m k).length ≤ T.length := pick_len _ _ _
def hwV (L : List Sp) (a : Sp) (time : Int) : List Int := if (srcOk L && isSp a) && inR time 0 1000 then upto (times L a) time L.length else []

set_option maxHeartbeats 800000 in
set_option maxRecDepth 100000 in
theorem snWithin_any (A : Option Addr) (c : Nat) (L : List Sp) (a : Sp) (m : Int) (w : World) (hm : Mem w A (spots L)) (g2 : L.length ≤ 40) (g1 : L.all isSp = true) (h2 : isSp a = true) : Calls Try.prog 87 #[.slice A L.length c, .agg #[.int .i64 a.x, .int .i64 a.y], .int .i64 m] w fun e w' =>
    ∃ A' c', e = .returned (.slice A' (upto (times L a) m L.length).length c') ∧ w'.ownsRow w.heap.size 3 1 (.slice A' (upto (times L a) m L.length).length c') (upto (times L a) m L.length).length (ints (upto (times L a) m L.length)) ∧ Below w.heap.size w w' := by
  obtain ⟨i0, hi, hz0, hz1, hz2⟩ := info_parts info_int
  have HG := Lib.hid g1
  have HA := Lib.hid h2
  clear g1 h2
  go_enter Try.func87, Try.ntmps87
  go_wp2
  go_loopw [7, 8, 9, 12] (fun v _ _ i wr => ∃ k n : Nat, k ≤ L.length ∧ n ≤ 40 ∧ i = .int .i64 k ∧ wr.ownsRow (w.heap.size + 1) 3 1 v n (ints (upto (times L a) m k)) ∧ Hid (n = (upto (times L a) m k).length) ∧ Below (w.heap.size + 1) (w.alloc (.cells #[.int .i64 a.x, .int .i64 a.y] 25)) wr) (fun _ _ _ i _ => L.length - (intOf i).toNat)
  case atStart => exact ⟨0, 0, by omega, by omega, rfl, by rw [upto, pick_zero]; exact World.ownsRow_nil _ _ _ _, Lib.hid (by rw [upto, pick_zero]; rfl), by (repeat (first | exact Below.refl _ _ | assumption | (refine Below.alloc ?_ (by first | omega | (simp; done) | (simp; omega)) _) | (refine Below.setCell ?_ (by first | omega | (simp; done) | (simp; omega)) _) | (refine Below.drew ?_) | (refine Below.drewN ?_ _) | (refine Below.next (by assumption) ?_ (by first | omega | (simp; done) | (simp; omega)))))⟩
  case round =>
    obtain ⟨k, n, hk, hn, rfl, hown, HN, hbx⟩ := hrel
    obtain ⟨hb, hsz⟩ := boxed hbx
    by_cases hlt : k < L.length
    · obtain ⟨s, hs⟩ := some_of_lt hlt
      obtain ⟨b, off, rfl, e1, e2⟩ := (hm.below hb).spot hs
      have q1 : wr.cell? ⟨w.heap.size, 0, none⟩ = some (.int .i64 a.x) := boxed_cell hbx 0
      have q2 : wr.cell? ⟨w.heap.size, 1, none⟩ = some (.int .i64 a.y) := boxed_cell hbx 1
      have hsg := all_at HG.out hs
      have hstep := upto_succ (m := m) (times_at (a := a) hs)
      have hlen := upto_len (times L a) m (k + 1)
      rw [times_len] at hlen
      have HST := Lib.hid hstep
      have HLN := Lib.hid hlen
      have HO := Lib.hid hown
      clear hs hown hstep hlen
      by_cases hcmp : (sndT (sq s a) : Int) ≤ m
      · have htm : tm a s ≤ m := by rw [tm_comm]; exact hcmp
        go_wp2_with fail
        refine (snDelay_any s a hsg HA.out _).mono ?_
        rintro e w1 ⟨rfl, hq⟩
        have ho := own_below (HO.out.alloc (.cells #[.int .i64 s.x, .int .i64 s.y] 25)) hq
        have hz : wr.heap.size + 1 ≤ w1.heap.size := by have := hq.size; simpa using this
        have hB1 : Below (w.heap.size + 1) (w.alloc (.cells #[.int .i64 a.x, .int .i64 a.y] 25)) w1 := by (repeat (first | exact Below.refl _ _ | assumption | (refine Below.alloc ?_ (by first | omega | (simp; done) | (simp; omega)) _) | (refine Below.setCell ?_ (by first | omega | (simp; done) | (simp; omega)) _) | (refine Below.drew ?_) | (refine Below.drewN ?_ _) | (refine Below.next (by assumption) ?_ (by first | omega | (simp; done) | (simp; omega)))))
        have HO2 := Lib.hid ho
        have HB := Lib.hid hB1
        clear q1 q2 ho hq hb hB1 hbx e1 e2
        go_wp2_with (at_builtin; refine wpList_append_one _ rfl (.tmp 22) (.tmp 24) 35 rfl (w.heap.size + 1) 3 i0 (.int .i64 0) 1 8 Try.underlying35 hi hz0 hz1 hz2 rfl (by omega) _ _ _ rfl HO2.out _ _ _ rfl rfl rfl (by omega) (by omega) (by omega) ?_; intro v' w2 hown' hb2)
        go_roundw
        case rel =>
          have e3 := HST.out
          rw [if_pos htm] at e3
          have e4 := HLN.out
          rw [e3] at e4
          have e5 := HN.out
          simp at e4
          exact ⟨k + 1, n + 1, by omega, by omega, by go_num, by rw [e3, ints_snoc]; exact hown', Lib.hid (by rw [e3, List.length_append, e5]; rfl), HB.out.trans hb2⟩
        case measure => simp [intOf]; omega
      · have htm : ¬ tm a s ≤ m := by rw [tm_comm]; exact hcmp
        go_wp2_with fail
        refine (snDelay_any s a hsg HA.out _).mono ?_
        rintro e w1 ⟨rfl, hq⟩
        have ho := own_below (HO.out.alloc (.cells #[.int .i64 s.x, .int .i64 s.y] 25)) hq
        have hz : wr.heap.size + 1 ≤ w1.heap.size := by have := hq.size; simpa using this
        have hB1 : Below (w.heap.size + 1) (w.alloc (.cells #[.int .i64 a.x, .int .i64 a.y] 25)) w1 := by (repeat (first | exact Below.refl _ _ | assumption | (refine Below.alloc ?_ (by first | omega | (simp; done) | (simp; omega)) _) | (refine Below.setCell ?_ (by first | omega | (simp; done) | (simp; omega)) _) | (refine Below.drew ?_) | (refine Below.drewN ?_ _) | (refine Below.next (by assumption) ?_ (by first | omega | (simp; done) | (simp; omega)))))
        have HO2 := Lib.hid ho
        have HB := Lib.hid hB1
        clear q1 q2 ho hq hb hB1 hbx e1 e2
        go_wp2
        go_roundw
        case rel =>
          have e3 := HST.out
          rw [if_neg (by omega)] at e3
          exact ⟨k + 1, n, by omega, hn, by go_num, by rw [e3]; exact HO2.out, Lib.hid (by rw [e3]; exact HN.out), HB.out⟩
        case measure => simp [intOf]; omega
    · go_wp2
      go_ret
      have e1 : k = L.length := by omega
      subst e1
      have e5 := HN.out
      subst e5
      obtain ⟨A', c', rfl⟩ := own_form hown
      exact ⟨_, _, rfl, own_base hown (by omega), hb⟩

set_option maxRecDepth 100000 in
theorem spec_HeardWithin_any (A : Option Addr) (c : Nat) (L : List Sp) (a : Sp) (m : Int) (w : World) (hm : Mem w A (spots L)) (hl : L.length ≤ 1048576) : Calls Try.prog 19 #[.slice A L.length c, .agg #[.int .i64 a.x, .int .i64 a.y], .int .i64 m] w
    (RetInts w (hwV L a m) ((srcOk L && isSp a) && inR m 0 1000)) := by
  cases h1 : srcOk L
  · go_enter Try.func19, Try.ntmps19
    go_wp2_with (go_at_call 83; refine (snList_any _ _ L _ (hm.below (by (repeat (first | exact Below.refl _ _ | assumption | (refine Below.alloc ?_ (by first | omega | (simp; done) | (simp; omega)) _) | (refine Below.setCell ?_ (by first | omega | (simp; done) | (simp; omega)) _) | (refine Below.drew ?_) | (refine Below.drewN ?_ _) | (refine Below.next (by assumption) ?_ (by first | omega | (simp; done) | (simp; omega))))))) hl).mono ?_; rintro e w' ⟨rfl, hq⟩; obtain ⟨hz, hc, hf⟩ := bel hq; (try simp at hz); (try have gz1 : w.heap.size < w'.heap.size := by omega); (try have gz2 : w.heap.size + 1 < w'.heap.size := by omega); (try have gz3 : wr.heap.size < w'.heap.size := by omega))
    go_ret2
    exact RetInts.none_ (by simp [hwV, h1]) rfl (by (repeat (first | exact Below.refl _ _ | assumption | (refine Below.alloc ?_ (by first | omega | (simp; done) | (simp; omega)) _) | (refine Below.setCell ?_ (by first | omega | (simp; done) | (simp; omega)) _) | (refine Below.drew ?_) | (refine Below.drewN ?_ _) | (refine Below.next (by assumption) ?_ (by first | omega | (simp; done) | (simp; omega))))))
  obtain ⟨g1, g2, g3⟩ := srcOk_iff.1 h1
  cases h2 : isSp a
  · go_enter Try.func19, Try.ntmps19
    go_wp2_with (first | (go_at_call 83; refine (snList_any _ _ L _ (hm.below (by (repeat (first | exact Below.refl _ _ | assumption | (refine Below.alloc ?_ (by first | omega | (simp; done) | (simp; omega)) _) | (refine Below.setCell ?_ (by first | omega | (simp; done) | (simp; omega)) _) | (refine Below.drew ?_) | (refine Below.drewN ?_ _) | (refine Below.next (by assumption) ?_ (by first | omega | (simp; done) | (simp; omega))))))) hl).mono ?_; rintro e w' ⟨rfl, hq⟩; obtain ⟨hz, hc, hf⟩ := bel hq; (try simp at hz); (try have gz1 : w.heap.size < w'.heap.size := by omega); (try have gz2 : w.heap.size + 1 < w'.heap.size := by omega); (try have gz3 : wr.heap.size < w'.heap.size := by omega)) | (go_at_call 84; refine (stGood_any _ _).mono ?_; rintro e w' ⟨rfl, o, rfl⟩))
    go_ret2
    exact RetInts.none_ (by simp [hwV, h2]) rfl (by (repeat (first | exact Below.refl _ _ | assumption | (refine Below.alloc ?_ (by first | omega | (simp; done) | (simp; omega)) _) | (refine Below.setCell ?_ (by first | omega | (simp; done) | (simp; omega)) _) | (refine Below.drew ?_) | (refine Below.drewN ?_ _) | (refine Below.next (by assumption) ?_ (by first | omega | (simp; done) | (simp; omega))))))
  cases h3 : inR m 0 1000
  · go_enter Try.func19, Try.ntmps19
    go_wp2_with (first | (go_at_call 83; refine (snList_any _ _ L _ (hm.below (by (repeat (first | exact Below.refl _ _ | assumption | (refine Below.alloc ?_ (by first | omega | (simp; done) | (simp; omega)) _) | (refine Below.setCell ?_ (by first | omega | (simp; done) | (simp; omega)) _) | (refine Below.drew ?_) | (refine Below.drewN ?_ _) | (refine Below.next (by assumption) ?_ (by first | omega | (simp; done) | (simp; omega))))))) hl).mono ?_; rintro e w' ⟨rfl, hq⟩; obtain ⟨hz, hc, hf⟩ := bel hq; (try simp at hz); (try have gz1 : w.heap.size < w'.heap.size := by omega); (try have gz2 : w.heap.size + 1 < w'.heap.size := by omega); (try have gz3 : wr.heap.size < w'.heap.size := by omega)) | (go_at_call 84; refine (stGood_any _ _).mono ?_; rintro e w' ⟨rfl, o, rfl⟩) | (go_at_call 86; refine (snIn_any _ _).mono ?_; rintro e w' ⟨rfl, rfl⟩))
    go_ret2
    exact RetInts.none_ (by simp [hwV, h3]) rfl (by (repeat (first | exact Below.refl _ _ | assumption | (refine Below.alloc ?_ (by first | omega | (simp; done) | (simp; omega)) _) | (refine Below.setCell ?_ (by first | omega | (simp; done) | (simp; omega)) _) | (refine Below.drew ?_) | (refine Below.drewN ?_ _) | (refine Below.next (by assumption) ?_ (by first | omega | (simp; done) | (simp; omega))))))
  · have HV : Hid (hwV L a m = upto (times L a) m L.length) := Lib.hid (by simp [hwV, h1, h2, h3])
    go_enter Try.func19, Try.ntmps19
    go_wp2_with (first | (first | (go_at_call 83; refine (snList_any _ _ L _ (hm.below (by (repeat (first | exact Below.refl _ _ | assumption | (refine Below.alloc ?_ (by first | omega | (simp; done) | (simp; omega)) _) | (refine Below.setCell ?_ (by first | omega | (simp; done) | (simp; omega)) _) | (refine Below.drew ?_) | (refine Below.drewN ?_ _) | (refine Below.next (by assumption) ?_ (by first | omega | (simp; done) | (simp; omega))))))) hl).mono ?_; rintro e w' ⟨rfl, hq⟩; obtain ⟨hz, hc, hf⟩ := bel hq; (try simp at hz); (try have gz1 : w.heap.size < w'.heap.size := by omega); (try have gz2 : w.heap.size + 1 < w'.heap.size := by omega); (try have gz3 : wr.heap.size < w'.heap.size := by omega)) | (go_at_call 84; refine (stGood_any _ _).mono ?_; rintro e w' ⟨rfl, o, rfl⟩) | (go_at_call 86; refine (snIn_any _ _).mono ?_; rintro e w' ⟨rfl, rfl⟩)) | (go_at_call 87; refine (snWithin_any _ _ L a m _ (hm.below (by (repeat (first | exact Below.refl _ _ | assumption | (refine Below.alloc ?_ (by first | omega | (simp; done) | (simp; omega)) _) | (refine Below.setCell ?_ (by first | omega | (simp; done) | (simp; omega)) _) | (refine Below.drew ?_) | (refine Below.drewN ?_ _) | (refine Below.next (by assumption) ?_ (by first | omega | (simp; done) | (simp; omega))))))) g2 g1 h2).mono ?_; rintro e w' ⟨A', c', rfl, ho, hq⟩; have hz := hq.size; (try simp at hz); (try have gz1 : w.heap.size < w'.heap.size := by omega); (try have gz2 : w.heap.size + 1 < w'.heap.size := by omega); (try have gz3 : wr.heap.size < w'.heap.size := by omega)))
    go_ret2
    exact RetInts.some_ rfl HV.out ho rfl (by simp; omega) (by (repeat (first | exact Below.refl _ _ | assumption | (refine Below.alloc ?_ (by first | omega | (simp; done) | (simp; omega)) _) | (refine Below.setCell ?_ (by first | omega | (simp; done) | (simp; omega)) _) | (refine Below.drew ?_) | (refine Below.drewN ?_ _) | (refine Below.next (by assumption) ?_ (by first | omega | (simp; done) | (simp; omega))))))

set_option maxHeartbeats 800000 in
set_option maxRecDepth 100000 in
theorem impl_HeardWithin_any (A : Option Addr) (c : Nat) (L : List Sp) (a : Sp) (m : Int) (w : World) (hm : Mem w A (spots L)) (hl : L.length ≤ 1048576) : Calls Try.prog 18 #[.slice A L.length c, .agg #[.int .i64 a.x, .int .i64 a.y], .int .i64 m] w
    (RetInts w (hwV L a m) ((srcOk L && isSp a) && inR m 0 1000)) := by
  cases h1 : srcOk L
  · go_enter Try.func18, Try.ntmps18
    go_wp2_with (go_at_call 80; refine (areSources_any _ _ L _ (hm.below (by (repeat (first | exact Below.refl _ _ | assumption | (refine Below.alloc ?_ (by first | omega | (simp; done) | (simp; omega)) _) | (refine Below.setCell ?_ (by first | omega | (simp; done) | (simp; omega)) _) | (refine Below.drew ?_) | (refine Below.drewN ?_ _) | (refine Below.next (by assumption) ?_ (by first | omega | (simp; done) | (simp; omega))))))) hl).mono ?_; rintro e w' ⟨rfl, hq⟩; obtain ⟨hz, hc, hf⟩ := bel hq; (try simp at hz); (try have gz1 : w.heap.size < w'.heap.size := by omega); (try have gz2 : w.heap.size + 1 < w'.heap.size := by omega); (try have gz3 : wr.heap.size < w'.heap.size := by omega))
    go_ret2
    exact RetInts.none_ (by simp [hwV, h1]) rfl (by (repeat (first | exact Below.refl _ _ | assumption | (refine Below.alloc ?_ (by first | omega | (simp; done) | (simp; omega)) _) | (refine Below.setCell ?_ (by first | omega | (simp; done) | (simp; omega)) _) | (refine Below.drew ?_) | (refine Below.drewN ?_ _) | (refine Below.next (by assumption) ?_ (by first | omega | (simp; done) | (simp; omega))))))
  obtain ⟨g1, g2, g3⟩ := srcOk_iff.1 h1
  cases h2 : isSp a
  · go_enter Try.func18, Try.ntmps18
    go_wp2_with (first | (go_at_call 80; refine (areSources_any _ _ L _ (hm.below (by (repeat (first | exact Below.refl _ _ | assumption | (refine Below.alloc ?_ (by first | omega | (simp; done) | (simp; omega)) _) | (refine Below.setCell ?_ (by first | omega | (simp; done) | (simp; omega)) _) | (refine Below.drew ?_) | (refine Below.drewN ?_ _) | (refine Below.next (by assumption) ?_ (by first | omega | (simp; done) | (simp; omega))))))) hl).mono ?_; rintro e w' ⟨rfl, hq⟩; obtain ⟨hz, hc, hf⟩ := bel hq; (try simp at hz); (try have gz1 : w.heap.size < w'.heap.size := by omega); (try have gz2 : w.heap.size + 1 < w'.heap.size := by omega); (try have gz3 : wr.heap.size < w'.heap.size := by omega)) | (go_at_call 73; refine (isSpot_any _ _).mono ?_; rintro e w' ⟨rfl, o, rfl⟩))
    go_ret2
    exact RetInts.none_ (by simp [hwV, h2]) rfl (by (repeat (first | exact Below.refl _ _ | assumption | (refine Below.alloc ?_ (by first | omega | (simp; done) | (simp; omega)) _) | (refine Below.setCell ?_ (by first | omega | (simp; done) | (simp; omega)) _) | (refine Below.drew ?_) | (refine Below.drewN ?_ _) | (refine Below.next (by assumption) ?_ (by first | omega | (simp; done) | (simp; omega))))))
  cases h3 : inR m 0 1000
  · go_enter Try.func18, Try.ntmps18
    go_wp2_with (first | (go_at_call 80; refine (areSources_any _ _ L _ (hm.below (by (repeat (first | exact Below.refl _ _ | assumption | (refine Below.alloc ?_ (by first | omega | (simp; done) | (simp; omega)) _) | (refine Below.setCell ?_ (by first | omega | (simp; done) | (simp; omega)) _) | (refine Below.drew ?_) | (refine Below.drewN ?_ _) | (refine Below.next (by assumption) ?_ (by first | omega | (simp; done) | (simp; omega))))))) hl).mono ?_; rintro e w' ⟨rfl, hq⟩; obtain ⟨hz, hc, hf⟩ := bel hq; (try simp at hz); (try have gz1 : w.heap.size < w'.heap.size := by omega); (try have gz2 : w.heap.size + 1 < w'.heap.size := by omega); (try have gz3 : wr.heap.size < w'.heap.size := by omega)) | (go_at_call 73; refine (isSpot_any _ _).mono ?_; rintro e w' ⟨rfl, o, rfl⟩) | (go_at_call 78; refine (within_any _ _ _ _).mono ?_; rintro e w' ⟨rfl, rfl⟩))
    go_ret2
    exact RetInts.none_ (by simp [hwV, h3]) rfl (by (repeat (first | exact Below.refl _ _ | assumption | (refine Below.alloc ?_ (by first | omega | (simp; done) | (simp; omega)) _) | (refine Below.setCell ?_ (by first | omega | (simp; done) | (simp; omega)) _) | (refine Below.drew ?_) | (refine Below.drewN ?_ _) | (refine Below.next (by assumption) ?_ (by first | omega | (simp; done) | (simp; omega))))))
  have HV : Hid (hwV L a m = upto (times L a) m L.length) := Lib.hid (by simp [hwV, h1, h2, h3])
  obtain ⟨i0, hi, hz0, hz1, hz2⟩ := info_parts info_int
  go_enter Try.func18, Try.ntmps18
  go_wp2_with (first | (go_at_call 80; refine (areSources_any _ _ L _ (hm.below (by (repeat (first | exact Below.refl _ _ | assumption | (refine Below.alloc ?_ (by first | omega | (simp; done) | (simp; omega)) _) | (refine Below.setCell ?_ (by first | omega | (simp; done) | (simp; omega)) _) | (refine Below.drew ?_) | (refine Below.drewN ?_ _) | (refine Below.next (by assumption) ?_ (by first | omega | (simp; done) | (simp; omega))))))) hl).mono ?_; rintro e w' ⟨rfl, hq⟩; obtain ⟨hz, hc, hf⟩ := bel hq; (try simp at hz); (try have gz1 : w.heap.size < w'.heap.size := by omega); (try have gz2 : w.heap.size + 1 < w'.heap.size := by omega); (try have gz3 : wr.heap.size < w'.heap.size := by omega)) | (go_at_call 73; refine (isSpot_any _ _).mono ?_; rintro e w' ⟨rfl, o, rfl⟩) | (go_at_call 78; refine (within_any _ _ _ _).mono ?_; rintro e w' ⟨rfl, rfl⟩) | (go_at_call 82; refine (timesAt_any _ _ L a _ (hm.below (by (repeat (first | exact Below.refl _ _ | assumption | (refine Below.alloc ?_ (by first | omega | (simp; done) | (simp; omega)) _) | (refine Below.setCell ?_ (by first | omega | (simp; done) | (simp; omega)) _) | (refine Below.drew ?_) | (refine Below.drewN ?_ _) | (refine Below.next (by assumption) ?_ (by first | omega | (simp; done) | (simp; omega))))))) g2 g1 h2).mono ?_; rintro e w' ⟨A', c', rfl, ho, hq⟩; obtain ⟨hz, hc, hf⟩ := bel hq; (try simp at hz); (try have gz1 : w.heap.size < w'.heap.size := by omega); (try have gz2 : w.heap.size + 1 < w'.heap.size := by omega); (try have gz3 : wr.heap.size < w'.heap.size := by omega)))
  have hb0 : Below w.heap.size w w' := by (repeat (first | exact Below.refl _ _ | assumption | (refine Below.alloc ?_ (by first | omega | (simp; done) | (simp; omega)) _) | (refine Below.setCell ?_ (by first | omega | (simp; done) | (simp; omega)) _) | (refine Below.drew ?_) | (refine Below.drewN ?_ _) | (refine Below.next (by assumption) ?_ (by first | omega | (simp; done) | (simp; omega)))))
  go_loopw [8, 9, 10, 29] (fun v _ _ i wr => ∃ k n : Nat, k ≤ L.length ∧ n ≤ 40 ∧ i = .int .i64 k ∧ wr.ownsRow w.heap.size 3 1 v n (ints (upto (times L a) m k)) ∧ Hid (n = (upto (times L a) m k).length) ∧ Below w.heap.size w wr ∧ Far wr v A' (ints (times L a))) (fun _ _ _ i _ => L.length - (intOf i).toNat)
  case atStart =>
    refine ⟨0, 0, by omega, by omega, rfl, ?_, Lib.hid (by rw [upto, pick_zero]; rfl), hb0, Far.of_own ho (fun j hj => ?_)⟩
    · rw [upto, pick_zero]
      exact own_below (own_empty _ _ (by simp) (by omega) rfl) hq
    · simp [Value.ownBlock] at hj
      simp
      omega
  case round =>
    obtain ⟨k, n, hk, hn, rfl, hown, HN, hb, hfar⟩ := hrel
    have hsz := hb.size
    by_cases hlt : k < L.length
    · obtain ⟨s, hs⟩ := some_of_lt (L := times L a) (k := k) (by rw [times_len]; exact hlt)
      obtain ⟨b, off, rfl, e1⟩ := hfar.mem.int hs
      have hstep := upto_succ (m := m) hs
      have hlen := upto_len (times L a) m (k + 1)
      rw [times_len] at hlen
      have HST := Lib.hid hstep
      have HLN := Lib.hid hlen
      have HO := Lib.hid hown
      have HF := Lib.hid hfar
      clear hs hown hstep hlen hfar
      by_cases hcmp : s ≤ m
      · go_wp2_with (at_builtin; refine wpList_append_far _ rfl (.tmp 37) (.tmp 39) 35 rfl w.heap.size 3 i0 (.int .i64 0) 1 8 Try.underlying35 hi hz0 hz1 hz2 rfl (by omega) _ _ _ rfl HO.out _ _ _ rfl rfl rfl (by omega) (by omega) (by omega) ?_; intro v' w2 hown' hb2 hfar')
        go_roundw
        case rel =>
          have e3 := HST.out
          rw [if_pos hcmp] at e3
          have e4 := HLN.out
          rw [e3] at e4
          have e5 := HN.out
          simp at e4
          exact ⟨k + 1, n + 1, by omega, by omega, by go_num, by rw [e3, ints_snoc]; exact hown', Lib.hid (by rw [e3, List.length_append, e5]; rfl), hb.trans hb2, hfar' _ _ HF.out⟩
        case measure => simp [intOf]; omega
      · go_wp2
        go_roundw
        case rel =>
          have e3 := HST.out
          rw [if_neg (by omega)] at e3
          exact ⟨k + 1, n, by omega, hn, by go_num, by rw [e3]; exact HO.out, Lib.hid (by rw [e3]; exact HN.out), hb, HF.out⟩
        case measure => simp [intOf]; omega
    · go_wp2
      go_ret2
      have e1 : k = L.length := by omega
      subst e1
      exact RetInts.some_ rfl HV.out hown HN.out (by omega) hb
end Go.Proofs.Ytdipmjflgjlfeaa
