/-
  Contracts: GoodPlaces, LateAt, the program's and the reference's.
-/
import Derived.Test.YtdipmjflgjlfeaaLis
namespace Go.Proofs.Ytdipmjflgjlfeaa
open Go.RowKit Go.Sort

def gpV (L : List Sp) (O : List Int) (M : List Sp) (m : Int) : List Int := if (entOk L O && srcOk M) && inR m 0 4000 then upto (hsprs L O M) m M.length else []
def late (T : List Int) (m : Int) (k : Nat) : List Int := pick (fun _ t => decide (m < t)) T k
theorem late_succ {T : List Int} {m : Int} {k : Nat} {t : Int} (h : T[k]? = some t) : late T m (k + 1) = if m < t then late T m k ++ [(k : Int)] else late T m k := by
  unfold late
  rw [pick_succ h]
  by_cases hc : m < t <;> simp [hc]
theorem late_len (T : List Int) (m : Int) (k : Nat) : (late T m k).length ≤ T.length := pick_len _ _ _
def laV (L : List Sp) (O : List Int) (a : Sp) (m : Int) : List Int := if (entOk L O && isSp a) && inR m 0 4000 then late (heard L O a) (lowOf (heard L O a) + m) L.length else []
set_option maxRecDepth 100000 in
theorem lsMost_any (n : Int) (w : World) : Calls Try.prog 100 #[.int .i64 n] w fun e w' => e = .returned (.bool (inR n 0 4000)) ∧ w = w' := by
  go_enter Try.func100, Try.ntmps100
  go_wp2_with (go_at_call 103; refine (l1In_any _ _ _ _).mono ?_; rintro e w' ⟨rfl, rfl⟩)
  go_ret
  exact ⟨rfl, rfl⟩

set_option maxRecDepth 100000 in
set_option maxHeartbeats 3200000 in
theorem spec_GoodPlaces_any (A : Option Addr) (c : Nat) (L : List Sp) (B : Option Addr) (d : Nat) (O : List Int) (C : Option Addr) (f : Nat) (M : List Sp) (m : Int) (w : World) (hm : Mem w A (spots L)) (hn : Mem w B (ints O)) (hp : Mem w C (spots M)) (hl : L.length ≤ 1048576) (hl2 : O.length ≤ 1048576) (hl3 : M.length ≤ 1048576) : Calls Try.prog 60 #[.slice A L.length c, .slice B O.length d, .slice C M.length f, .int .i64 m] w
    (RetInts w (gpV L O M m) ((entOk L O && srcOk M) && inR m 0 4000)) := by
  obtain ⟨i0, hi, hz0, hz1, hz2⟩ := info_parts info_int
  cases h1 : entOk L O
  · go_enter Try.func60, Try.ntmps60
    go_wp2_with (first | (go_at_call 95; refine (lsGood_any _ _ L _ _ O _ (hm.below (by (repeat (first | exact Below.refl _ _ | assumption | (refine Below.alloc ?_ (by first | omega | (simp; done) | (simp; omega)) _) | (refine Below.setCell ?_ (by first | omega | (simp; done) | (simp; omega)) _) | (refine Below.drew ?_) | (refine Below.drewN ?_ _) | (refine Below.next (by assumption) ?_ (by first | omega | (simp; done) | (simp; omega))))))) (hn.below (by (repeat (first | exact Below.refl _ _ | assumption | (refine Below.alloc ?_ (by first | omega | (simp; done) | (simp; omega)) _) | (refine Below.setCell ?_ (by first | omega | (simp; done) | (simp; omega)) _) | (refine Below.drew ?_) | (refine Below.drewN ?_ _) | (refine Below.next (by assumption) ?_ (by first | omega | (simp; done) | (simp; omega))))))) hl hl2).mono ?_; rintro e w' ⟨rfl, hq⟩; obtain ⟨hz, hc, hf⟩ := bel hq; (try simp at hz); (try have gz1 : w.heap.size < w'.heap.size := by omega); (try have gz2 : w.heap.size + 1 < w'.heap.size := by omega); (try have gz3 : wr.heap.size < w'.heap.size := by omega)) | (go_at_call 83; refine (snList_any _ _ M _ (hp.below (by (repeat (first | exact Below.refl _ _ | assumption | (refine Below.alloc ?_ (by first | omega | (simp; done) | (simp; omega)) _) | (refine Below.setCell ?_ (by first | omega | (simp; done) | (simp; omega)) _) | (refine Below.drew ?_) | (refine Below.drewN ?_ _) | (refine Below.next (by assumption) ?_ (by first | omega | (simp; done) | (simp; omega))))))) hl3).mono ?_; rintro e w' ⟨rfl, hq⟩; obtain ⟨hz, hc, hf⟩ := bel hq; (try simp at hz); (try have gz1 : w.heap.size < w'.heap.size := by omega); (try have gz2 : w.heap.size + 1 < w'.heap.size := by omega); (try have gz3 : wr.heap.size < w'.heap.size := by omega)) | (go_at_call 100; refine (lsMost_any _ _).mono ?_; rintro e w' ⟨rfl, rfl⟩))
    go_ret2
    exact RetInts.none_ (by simp [gpV, h1]) rfl (by (repeat (first | exact Below.refl _ _ | assumption | (refine Below.alloc ?_ (by first | omega | (simp; done) | (simp; omega)) _) | (refine Below.setCell ?_ (by first | omega | (simp; done) | (simp; omega)) _) | (refine Below.drew ?_) | (refine Below.drewN ?_ _) | (refine Below.next (by assumption) ?_ (by first | omega | (simp; done) | (simp; omega))))))
  obtain ⟨g1, g2, g3⟩ := entOk_iff.1 h1
  have G3 := Lib.hid g3
  have HO := Lib.hid (off_all g2)
  clear g3
  obtain ⟨r1, r2, r3⟩ := srcOk_iff.1 g1
  cases h2 : srcOk M
  · go_enter Try.func60, Try.ntmps60
    go_wp2_with (first | (go_at_call 95; refine (lsGood_any _ _ L _ _ O _ (hm.below (by (repeat (first | exact Below.refl _ _ | assumption | (refine Below.alloc ?_ (by first | omega | (simp; done) | (simp; omega)) _) | (refine Below.setCell ?_ (by first | omega | (simp; done) | (simp; omega)) _) | (refine Below.drew ?_) | (refine Below.drewN ?_ _) | (refine Below.next (by assumption) ?_ (by first | omega | (simp; done) | (simp; omega))))))) (hn.below (by (repeat (first | exact Below.refl _ _ | assumption | (refine Below.alloc ?_ (by first | omega | (simp; done) | (simp; omega)) _) | (refine Below.setCell ?_ (by first | omega | (simp; done) | (simp; omega)) _) | (refine Below.drew ?_) | (refine Below.drewN ?_ _) | (refine Below.next (by assumption) ?_ (by first | omega | (simp; done) | (simp; omega))))))) hl hl2).mono ?_; rintro e w' ⟨rfl, hq⟩; obtain ⟨hz, hc, hf⟩ := bel hq; (try simp at hz); (try have gz1 : w.heap.size < w'.heap.size := by omega); (try have gz2 : w.heap.size + 1 < w'.heap.size := by omega); (try have gz3 : wr.heap.size < w'.heap.size := by omega)) | (go_at_call 83; refine (snList_any _ _ M _ (hp.below (by (repeat (first | exact Below.refl _ _ | assumption | (refine Below.alloc ?_ (by first | omega | (simp; done) | (simp; omega)) _) | (refine Below.setCell ?_ (by first | omega | (simp; done) | (simp; omega)) _) | (refine Below.drew ?_) | (refine Below.drewN ?_ _) | (refine Below.next (by assumption) ?_ (by first | omega | (simp; done) | (simp; omega))))))) hl3).mono ?_; rintro e w' ⟨rfl, hq⟩; obtain ⟨hz, hc, hf⟩ := bel hq; (try simp at hz); (try have gz1 : w.heap.size < w'.heap.size := by omega); (try have gz2 : w.heap.size + 1 < w'.heap.size := by omega); (try have gz3 : wr.heap.size < w'.heap.size := by omega)) | (go_at_call 100; refine (lsMost_any _ _).mono ?_; rintro e w' ⟨rfl, rfl⟩))
    go_ret2
    exact RetInts.none_ (by simp [gpV, h2]) rfl (by (repeat (first | exact Below.refl _ _ | assumption | (refine Below.alloc ?_ (by first | omega | (simp; done) | (simp; omega)) _) | (refine Below.setCell ?_ (by first | omega | (simp; done) | (simp; omega)) _) | (refine Below.drew ?_) | (refine Below.drewN ?_ _) | (refine Below.next (by assumption) ?_ (by first | omega | (simp; done) | (simp; omega))))))
  cases h3 : inR m 0 4000
  · go_enter Try.func60, Try.ntmps60
    go_wp2_with (first | (go_at_call 95; refine (lsGood_any _ _ L _ _ O _ (hm.below (by (repeat (first | exact Below.refl _ _ | assumption | (refine Below.alloc ?_ (by first | omega | (simp; done) | (simp; omega)) _) | (refine Below.setCell ?_ (by first | omega | (simp; done) | (simp; omega)) _) | (refine Below.drew ?_) | (refine Below.drewN ?_ _) | (refine Below.next (by assumption) ?_ (by first | omega | (simp; done) | (simp; omega))))))) (hn.below (by (repeat (first | exact Below.refl _ _ | assumption | (refine Below.alloc ?_ (by first | omega | (simp; done) | (simp; omega)) _) | (refine Below.setCell ?_ (by first | omega | (simp; done) | (simp; omega)) _) | (refine Below.drew ?_) | (refine Below.drewN ?_ _) | (refine Below.next (by assumption) ?_ (by first | omega | (simp; done) | (simp; omega))))))) hl hl2).mono ?_; rintro e w' ⟨rfl, hq⟩; obtain ⟨hz, hc, hf⟩ := bel hq; (try simp at hz); (try have gz1 : w.heap.size < w'.heap.size := by omega); (try have gz2 : w.heap.size + 1 < w'.heap.size := by omega); (try have gz3 : wr.heap.size < w'.heap.size := by omega)) | (go_at_call 83; refine (snList_any _ _ M _ (hp.below (by (repeat (first | exact Below.refl _ _ | assumption | (refine Below.alloc ?_ (by first | omega | (simp; done) | (simp; omega)) _) | (refine Below.setCell ?_ (by first | omega | (simp; done) | (simp; omega)) _) | (refine Below.drew ?_) | (refine Below.drewN ?_ _) | (refine Below.next (by assumption) ?_ (by first | omega | (simp; done) | (simp; omega))))))) hl3).mono ?_; rintro e w' ⟨rfl, hq⟩; obtain ⟨hz, hc, hf⟩ := bel hq; (try simp at hz); (try have gz1 : w.heap.size < w'.heap.size := by omega); (try have gz2 : w.heap.size + 1 < w'.heap.size := by omega); (try have gz3 : wr.heap.size < w'.heap.size := by omega)) | (go_at_call 100; refine (lsMost_any _ _).mono ?_; rintro e w' ⟨rfl, rfl⟩))
    go_ret2
    exact RetInts.none_ (by simp [gpV, h3]) rfl (by (repeat (first | exact Below.refl _ _ | assumption | (refine Below.alloc ?_ (by first | omega | (simp; done) | (simp; omega)) _) | (refine Below.setCell ?_ (by first | omega | (simp; done) | (simp; omega)) _) | (refine Below.drew ?_) | (refine Below.drewN ?_ _) | (refine Below.next (by assumption) ?_ (by first | omega | (simp; done) | (simp; omega))))))
  obtain ⟨t1, t2, t3⟩ := srcOk_iff.1 h2
  have HV : Hid (gpV L O M m = upto (hsprs L O M) m M.length) := Lib.hid (by simp [gpV, h1, h2, h3])
  have HT := Lib.hid t1
  have hmr := inR_iff.1 h3
  go_enter Try.func60, Try.ntmps60
  go_wp2_with (first | (go_at_call 95; refine (lsGood_any _ _ L _ _ O _ (hm.below (by (repeat (first | exact Below.refl _ _ | assumption | (refine Below.alloc ?_ (by first | omega | (simp; done) | (simp; omega)) _) | (refine Below.setCell ?_ (by first | omega | (simp; done) | (simp; omega)) _) | (refine Below.drew ?_) | (refine Below.drewN ?_ _) | (refine Below.next (by assumption) ?_ (by first | omega | (simp; done) | (simp; omega))))))) (hn.below (by (repeat (first | exact Below.refl _ _ | assumption | (refine Below.alloc ?_ (by first | omega | (simp; done) | (simp; omega)) _) | (refine Below.setCell ?_ (by first | omega | (simp; done) | (simp; omega)) _) | (refine Below.drew ?_) | (refine Below.drewN ?_ _) | (refine Below.next (by assumption) ?_ (by first | omega | (simp; done) | (simp; omega))))))) hl hl2).mono ?_; rintro e w' ⟨rfl, hq⟩; obtain ⟨hz, hc, hf⟩ := bel hq; (try simp at hz); (try have gz1 : w.heap.size < w'.heap.size := by omega); (try have gz2 : w.heap.size + 1 < w'.heap.size := by omega); (try have gz3 : wr.heap.size < w'.heap.size := by omega)) | (go_at_call 83; refine (snList_any _ _ M _ (hp.below (by (repeat (first | exact Below.refl _ _ | assumption | (refine Below.alloc ?_ (by first | omega | (simp; done) | (simp; omega)) _) | (refine Below.setCell ?_ (by first | omega | (simp; done) | (simp; omega)) _) | (refine Below.drew ?_) | (refine Below.drewN ?_ _) | (refine Below.next (by assumption) ?_ (by first | omega | (simp; done) | (simp; omega))))))) hl3).mono ?_; rintro e w' ⟨rfl, hq⟩; obtain ⟨hz, hc, hf⟩ := bel hq; (try simp at hz); (try have gz1 : w.heap.size < w'.heap.size := by omega); (try have gz2 : w.heap.size + 1 < w'.heap.size := by omega); (try have gz3 : wr.heap.size < w'.heap.size := by omega)) | (go_at_call 100; refine (lsMost_any _ _).mono ?_; rintro e w' ⟨rfl, rfl⟩))
  have hb2 : Below w.heap.size w w' := by (repeat (first | exact Below.refl _ _ | assumption | (refine Below.alloc ?_ (by first | omega | (simp; done) | (simp; omega)) _) | (refine Below.setCell ?_ (by first | omega | (simp; done) | (simp; omega)) _) | (refine Below.drew ?_) | (refine Below.drewN ?_ _) | (refine Below.next (by assumption) ?_ (by first | omega | (simp; done) | (simp; omega)))))
  have hz9 := hb2.size
  clear hq hz hc hf t1 h1 h2 h3 g1 g2
  go_loopw [10, 11, 12, 29] (fun v _ _ i wr => ∃ k n : Nat, k ≤ M.length ∧ n ≤ 40 ∧ i = .int .i64 k ∧ wr.ownsRow w.heap.size 3 1 v n (ints (upto (hsprs L O M) m k)) ∧ Hid (n = (upto (hsprs L O M) m k).length) ∧ Below w.heap.size w wr) (fun _ _ _ i _ => M.length - (intOf i).toNat)
  case atStart => exact ⟨0, 0, by omega, by omega, rfl, by rw [upto, pick_zero]; exact World.ownsRow_nil _ _ _ _, Lib.hid (by rw [upto, pick_zero]; rfl), hb2⟩
  case round =>
    obtain ⟨k, n, hk, hn1, rfl, hown, HN, hb⟩ := hrel
    have hsz := hb.size
    by_cases hlt : k < M.length
    · obtain ⟨s, hs⟩ := some_of_lt hlt
      obtain ⟨b, off, rfl, e1, e2⟩ := (hp.below hb).spot hs
      have hbl : b < wr.heap.size := World.block_lt_of_cell? wr _ e1
      have hsg := all_at HT.out hs
      have hbd := hspr_bd r3 r1 HO.out G3.out hsg
      have HST := Lib.hid (upto_succ (m := m) (hsprs_at (L := L) (O := O) hs))
      have hlen := upto_len (hsprs L O M) m (k + 1)
      have hM : (hsprs L O M).length = M.length := by simp [hsprs]
      rw [hM] at hlen
      have HLN := Lib.hid hlen
      have HW := Lib.hid hown
      clear hs hown hlen hM
      by_cases hcmp : hspr L O s ≤ m
      all_goals
        go_wp2_with fail
        refine (lsSpread_any _ _ L _ _ O s _ (hm.below (by (repeat (first | exact Below.refl _ _ | assumption | (refine Below.alloc ?_ (by first | omega | (simp; done) | (simp; omega)) _) | (refine Below.setCell ?_ (by first | omega | (simp; done) | (simp; omega)) _) | (refine Below.drew ?_) | (refine Below.drewN ?_ _) | (refine Below.next (by assumption) ?_ (by first | omega | (simp; done) | (simp; omega))))))) (hn.below (by (repeat (first | exact Below.refl _ _ | assumption | (refine Below.alloc ?_ (by first | omega | (simp; done) | (simp; omega)) _) | (refine Below.setCell ?_ (by first | omega | (simp; done) | (simp; omega)) _) | (refine Below.drew ?_) | (refine Below.drewN ?_ _) | (refine Below.next (by assumption) ?_ (by first | omega | (simp; done) | (simp; omega))))))) r2 r3 r1 HO.out G3.out hsg).mono ?_
        rintro e w1 ⟨rfl, hq⟩
        have ho := own_below (HW.out.alloc (.cells #[.int .i64 s.x, .int .i64 s.y] 25)) hq
        have hsz1 : wr.heap.size + 1 ≤ w1.heap.size := by have := hq.size; simpa using this
        have hB1 : Below w.heap.size w w1 := by (repeat (first | exact Below.refl _ _ | assumption | (refine Below.alloc ?_ (by first | omega | (simp; done) | (simp; omega)) _) | (refine Below.setCell ?_ (by first | omega | (simp; done) | (simp; omega)) _) | (refine Below.drew ?_) | (refine Below.drewN ?_ _) | (refine Below.next (by assumption) ?_ (by first | omega | (simp; done) | (simp; omega)))))
        have HO2 := Lib.hid ho
        have HB := Lib.hid hB1
        clear ho hq hb hB1 e1 e2
      · go_wp2_with (at_builtin; refine wpList_append_one _ rfl (.tmp 40) (.tmp 42) 35 rfl w.heap.size 3 i0 (.int .i64 0) 1 8 Try.underlying35 hi hz0 hz1 hz2 rfl (by omega) _ _ _ rfl HO2.out _ _ _ rfl rfl rfl (by omega) (by omega) (by omega) ?_; intro v' w2 hown' hb2)
        go_roundw
        case rel =>
          have e3 := HST.out
          rw [if_pos hcmp] at e3
          have e4 := HLN.out
          rw [e3] at e4
          have e5 := HN.out
          simp at e4
          exact ⟨k + 1, n + 1, by omega, by omega, by go_num, by rw [e3, ints_snoc]; exact hown', Lib.hid (by rw [e3, List.length_append, e5]; rfl), HB.out.trans hb2⟩
        case measure => simp [intOf]; omega
      · go_wp2
        go_roundw
        case rel =>
          have e3 := HST.out
          rw [if_neg (by omega)] at e3
          exact ⟨k + 1, n, by omega, hn1, by go_num, by rw [e3]; exact HO2.out, Lib.hid (by rw [e3]; exact HN.out), HB.out⟩
        case measure => simp [intOf]; omega
    · go_wp2
      go_ret2
      have e1 : k = M.length := by omega
      subst e1
      have e5 := HN.out
      subst e5
      exact RetInts.some_ rfl HV.out hown rfl (by omega) (by (repeat (first | exact Below.refl _ _ | assumption | (refine Below.alloc ?_ (by first | omega | (simp; done) | (simp; omega)) _) | (refine Below.setCell ?_ (by first | omega | (simp; done) | (simp; omega)) _) | (refine Below.drew ?_) | (refine Below.drewN ?_ _) | (refine Below.next (by assumption) ?_ (by first | omega | (simp; done) | (simp; omega))))))

set_option maxRecDepth 100000 in
set_option maxHeartbeats 3200000 in
theorem impl_GoodPlaces_any (A : Option Addr) (c : Nat) (L : List Sp) (B : Option Addr) (d : Nat) (O : List Int) (C : Option Addr) (f : Nat) (M : List Sp) (m : Int) (w : World) (hm : Mem w A (spots L)) (hn : Mem w B (ints O)) (hp : Mem w C (spots M)) (hl : L.length ≤ 1048576) (hl2 : O.length ≤ 1048576) (hl3 : M.length ≤ 1048576) : Calls Try.prog 59 #[.slice A L.length c, .slice B O.length d, .slice C M.length f, .int .i64 m] w
    (RetInts w (gpV L O M m) ((entOk L O && srcOk M) && inR m 0 4000)) := by
  obtain ⟨i0, hi, hz0, hz1, hz2⟩ := info_parts info_int
  cases h1 : entOk L O
  · go_enter Try.func59, Try.ntmps59
    go_wp2_with (first | (go_at_call 93; refine (areEntries_any _ _ L _ _ O _ (hm.below (by (repeat (first | exact Below.refl _ _ | assumption | (refine Below.alloc ?_ (by first | omega | (simp; done) | (simp; omega)) _) | (refine Below.setCell ?_ (by first | omega | (simp; done) | (simp; omega)) _) | (refine Below.drew ?_) | (refine Below.drewN ?_ _) | (refine Below.next (by assumption) ?_ (by first | omega | (simp; done) | (simp; omega))))))) (hn.below (by (repeat (first | exact Below.refl _ _ | assumption | (refine Below.alloc ?_ (by first | omega | (simp; done) | (simp; omega)) _) | (refine Below.setCell ?_ (by first | omega | (simp; done) | (simp; omega)) _) | (refine Below.drew ?_) | (refine Below.drewN ?_ _) | (refine Below.next (by assumption) ?_ (by first | omega | (simp; done) | (simp; omega))))))) hl hl2).mono ?_; rintro e w' ⟨rfl, hq⟩; obtain ⟨hz, hc, hf⟩ := bel hq; (try simp at hz); (try have gz1 : w.heap.size < w'.heap.size := by omega); (try have gz2 : w.heap.size + 1 < w'.heap.size := by omega); (try have gz3 : wr.heap.size < w'.heap.size := by omega)) | (go_at_call 80; refine (areSources_any _ _ M _ (hp.below (by (repeat (first | exact Below.refl _ _ | assumption | (refine Below.alloc ?_ (by first | omega | (simp; done) | (simp; omega)) _) | (refine Below.setCell ?_ (by first | omega | (simp; done) | (simp; omega)) _) | (refine Below.drew ?_) | (refine Below.drewN ?_ _) | (refine Below.next (by assumption) ?_ (by first | omega | (simp; done) | (simp; omega))))))) hl3).mono ?_; rintro e w' ⟨rfl, hq⟩; obtain ⟨hz, hc, hf⟩ := bel hq; (try simp at hz); (try have gz1 : w.heap.size < w'.heap.size := by omega); (try have gz2 : w.heap.size + 1 < w'.heap.size := by omega); (try have gz3 : wr.heap.size < w'.heap.size := by omega)) | (go_at_call 78; refine (within_any _ _ _ _).mono ?_; rintro e w' ⟨rfl, rfl⟩))
    go_ret2
    exact RetInts.none_ (by simp [gpV, h1]) rfl (by (repeat (first | exact Below.refl _ _ | assumption | (refine Below.alloc ?_ (by first | omega | (simp; done) | (simp; omega)) _) | (refine Below.setCell ?_ (by first | omega | (simp; done) | (simp; omega)) _) | (refine Below.drew ?_) | (refine Below.drewN ?_ _) | (refine Below.next (by assumption) ?_ (by first | omega | (simp; done) | (simp; omega))))))
  obtain ⟨g1, g2, g3⟩ := entOk_iff.1 h1
  have G3 := Lib.hid g3
  have HO := Lib.hid (off_all g2)
  clear g3
  obtain ⟨r1, r2, r3⟩ := srcOk_iff.1 g1
  cases h2 : srcOk M
  · go_enter Try.func59, Try.ntmps59
    go_wp2_with (first | (go_at_call 93; refine (areEntries_any _ _ L _ _ O _ (hm.below (by (repeat (first | exact Below.refl _ _ | assumption | (refine Below.alloc ?_ (by first | omega | (simp; done) | (simp; omega)) _) | (refine Below.setCell ?_ (by first | omega | (simp; done) | (simp; omega)) _) | (refine Below.drew ?_) | (refine Below.drewN ?_ _) | (refine Below.next (by assumption) ?_ (by first | omega | (simp; done) | (simp; omega))))))) (hn.below (by (repeat (first | exact Below.refl _ _ | assumption | (refine Below.alloc ?_ (by first | omega | (simp; done) | (simp; omega)) _) | (refine Below.setCell ?_ (by first | omega | (simp; done) | (simp; omega)) _) | (refine Below.drew ?_) | (refine Below.drewN ?_ _) | (refine Below.next (by assumption) ?_ (by first | omega | (simp; done) | (simp; omega))))))) hl hl2).mono ?_; rintro e w' ⟨rfl, hq⟩; obtain ⟨hz, hc, hf⟩ := bel hq; (try simp at hz); (try have gz1 : w.heap.size < w'.heap.size := by omega); (try have gz2 : w.heap.size + 1 < w'.heap.size := by omega); (try have gz3 : wr.heap.size < w'.heap.size := by omega)) | (go_at_call 80; refine (areSources_any _ _ M _ (hp.below (by (repeat (first | exact Below.refl _ _ | assumption | (refine Below.alloc ?_ (by first | omega | (simp; done) | (simp; omega)) _) | (refine Below.setCell ?_ (by first | omega | (simp; done) | (simp; omega)) _) | (refine Below.drew ?_) | (refine Below.drewN ?_ _) | (refine Below.next (by assumption) ?_ (by first | omega | (simp; done) | (simp; omega))))))) hl3).mono ?_; rintro e w' ⟨rfl, hq⟩; obtain ⟨hz, hc, hf⟩ := bel hq; (try simp at hz); (try have gz1 : w.heap.size < w'.heap.size := by omega); (try have gz2 : w.heap.size + 1 < w'.heap.size := by omega); (try have gz3 : wr.heap.size < w'.heap.size := by omega)) | (go_at_call 78; refine (within_any _ _ _ _).mono ?_; rintro e w' ⟨rfl, rfl⟩))
    go_ret2
    exact RetInts.none_ (by simp [gpV, h2]) rfl (by (repeat (first | exact Below.refl _ _ | assumption | (refine Below.alloc ?_ (by first | omega | (simp; done) | (simp; omega)) _) | (refine Below.setCell ?_ (by first | omega | (simp; done) | (simp; omega)) _) | (refine Below.drew ?_) | (refine Below.drewN ?_ _) | (refine Below.next (by assumption) ?_ (by first | omega | (simp; done) | (simp; omega))))))
  cases h3 : inR m 0 4000
  · go_enter Try.func59, Try.ntmps59
    go_wp2_with (first | (go_at_call 93; refine (areEntries_any _ _ L _ _ O _ (hm.below (by (repeat (first | exact Below.refl _ _ | assumption | (refine Below.alloc ?_ (by first | omega | (simp; done) | (simp; omega)) _) | (refine Below.setCell ?_ (by first | omega | (simp; done) | (simp; omega)) _) | (refine Below.drew ?_) | (refine Below.drewN ?_ _) | (refine Below.next (by assumption) ?_ (by first | omega | (simp; done) | (simp; omega))))))) (hn.below (by (repeat (first | exact Below.refl _ _ | assumption | (refine Below.alloc ?_ (by first | omega | (simp; done) | (simp; omega)) _) | (refine Below.setCell ?_ (by first | omega | (simp; done) | (simp; omega)) _) | (refine Below.drew ?_) | (refine Below.drewN ?_ _) | (refine Below.next (by assumption) ?_ (by first | omega | (simp; done) | (simp; omega))))))) hl hl2).mono ?_; rintro e w' ⟨rfl, hq⟩; obtain ⟨hz, hc, hf⟩ := bel hq; (try simp at hz); (try have gz1 : w.heap.size < w'.heap.size := by omega); (try have gz2 : w.heap.size + 1 < w'.heap.size := by omega); (try have gz3 : wr.heap.size < w'.heap.size := by omega)) | (go_at_call 80; refine (areSources_any _ _ M _ (hp.below (by (repeat (first | exact Below.refl _ _ | assumption | (refine Below.alloc ?_ (by first | omega | (simp; done) | (simp; omega)) _) | (refine Below.setCell ?_ (by first | omega | (simp; done) | (simp; omega)) _) | (refine Below.drew ?_) | (refine Below.drewN ?_ _) | (refine Below.next (by assumption) ?_ (by first | omega | (simp; done) | (simp; omega))))))) hl3).mono ?_; rintro e w' ⟨rfl, hq⟩; obtain ⟨hz, hc, hf⟩ := bel hq; (try simp at hz); (try have gz1 : w.heap.size < w'.heap.size := by omega); (try have gz2 : w.heap.size + 1 < w'.heap.size := by omega); (try have gz3 : wr.heap.size < w'.heap.size := by omega)) | (go_at_call 78; refine (within_any _ _ _ _).mono ?_; rintro e w' ⟨rfl, rfl⟩))
    go_ret2
    exact RetInts.none_ (by simp [gpV, h3]) rfl (by (repeat (first | exact Below.refl _ _ | assumption | (refine Below.alloc ?_ (by first | omega | (simp; done) | (simp; omega)) _) | (refine Below.setCell ?_ (by first | omega | (simp; done) | (simp; omega)) _) | (refine Below.drew ?_) | (refine Below.drewN ?_ _) | (refine Below.next (by assumption) ?_ (by first | omega | (simp; done) | (simp; omega))))))
  obtain ⟨t1, t2, t3⟩ := srcOk_iff.1 h2
  have HV : Hid (gpV L O M m = upto (hsprs L O M) m M.length) := Lib.hid (by simp [gpV, h1, h2, h3])
  have HT := Lib.hid t1
  have hmr := inR_iff.1 h3
  go_enter Try.func59, Try.ntmps59
  go_wp2_with (first | (go_at_call 93; refine (areEntries_any _ _ L _ _ O _ (hm.below (by (repeat (first | exact Below.refl _ _ | assumption | (refine Below.alloc ?_ (by first | omega | (simp; done) | (simp; omega)) _) | (refine Below.setCell ?_ (by first | omega | (simp; done) | (simp; omega)) _) | (refine Below.drew ?_) | (refine Below.drewN ?_ _) | (refine Below.next (by assumption) ?_ (by first | omega | (simp; done) | (simp; omega))))))) (hn.below (by (repeat (first | exact Below.refl _ _ | assumption | (refine Below.alloc ?_ (by first | omega | (simp; done) | (simp; omega)) _) | (refine Below.setCell ?_ (by first | omega | (simp; done) | (simp; omega)) _) | (refine Below.drew ?_) | (refine Below.drewN ?_ _) | (refine Below.next (by assumption) ?_ (by first | omega | (simp; done) | (simp; omega))))))) hl hl2).mono ?_; rintro e w' ⟨rfl, hq⟩; obtain ⟨hz, hc, hf⟩ := bel hq; (try simp at hz); (try have gz1 : w.heap.size < w'.heap.size := by omega); (try have gz2 : w.heap.size + 1 < w'.heap.size := by omega); (try have gz3 : wr.heap.size < w'.heap.size := by omega)) | (go_at_call 80; refine (areSources_any _ _ M _ (hp.below (by (repeat (first | exact Below.refl _ _ | assumption | (refine Below.alloc ?_ (by first | omega | (simp; done) | (simp; omega)) _) | (refine Below.setCell ?_ (by first | omega | (simp; done) | (simp; omega)) _) | (refine Below.drew ?_) | (refine Below.drewN ?_ _) | (refine Below.next (by assumption) ?_ (by first | omega | (simp; done) | (simp; omega))))))) hl3).mono ?_; rintro e w' ⟨rfl, hq⟩; obtain ⟨hz, hc, hf⟩ := bel hq; (try simp at hz); (try have gz1 : w.heap.size < w'.heap.size := by omega); (try have gz2 : w.heap.size + 1 < w'.heap.size := by omega); (try have gz3 : wr.heap.size < w'.heap.size := by omega)) | (go_at_call 78; refine (within_any _ _ _ _).mono ?_; rintro e w' ⟨rfl, rfl⟩))
  have hb2 : Below w.heap.size w w' := by (repeat (first | exact Below.refl _ _ | assumption | (refine Below.alloc ?_ (by first | omega | (simp; done) | (simp; omega)) _) | (refine Below.setCell ?_ (by first | omega | (simp; done) | (simp; omega)) _) | (refine Below.drew ?_) | (refine Below.drewN ?_ _) | (refine Below.next (by assumption) ?_ (by first | omega | (simp; done) | (simp; omega)))))
  have hz9 := hb2.size
  clear hq hz hc hf t1 h1 h2 h3 g1 g2
  go_loopw [10, 11, 12, 13, 14, 32] (fun v _ _ _ _ i wr => ∃ k n : Nat, k ≤ M.length ∧ n ≤ 40 ∧ i = .int .i64 k ∧ wr.ownsRow w.heap.size 3 1 v n (ints (upto (hsprs L O M) m k)) ∧ Hid (n = (upto (hsprs L O M) m k).length) ∧ Below w.heap.size w wr) (fun _ _ _ _ _ i _ => M.length - (intOf i).toNat)
  case atStart => exact ⟨0, 0, by omega, by omega, rfl, by rw [upto, pick_zero]; exact own_empty _ _ (by simp) (by omega) (by simp [ints]), Lib.hid (by rw [upto, pick_zero]; rfl), hb2.alloc (by omega) _⟩
  case round =>
    obtain ⟨k, n, hk, hn1, rfl, hown, HN, hb⟩ := hrel
    have hsz := hb.size
    by_cases hlt : k < M.length
    · obtain ⟨s, hs⟩ := some_of_lt hlt
      obtain ⟨b, off, rfl, e1, e2⟩ := (hp.below hb).spot hs
      have hbl : b < wr.heap.size := World.block_lt_of_cell? wr _ e1
      have hsg := all_at HT.out hs
      have hbd := hspr_bd r3 r1 HO.out G3.out hsg
      have HST := Lib.hid (upto_succ (m := m) (hsprs_at (L := L) (O := O) hs))
      have hlen := upto_len (hsprs L O M) m (k + 1)
      have hM : (hsprs L O M).length = M.length := by simp [hsprs]
      rw [hM] at hlen
      have HLN := Lib.hid hlen
      have HW := Lib.hid hown
      clear hs hown hlen hM
      by_cases hcmp : hspr L O s ≤ m
      all_goals
        go_wp2_with fail
        refine (heardTimes_any _ _ L _ _ O s _ (hm.below (by (repeat (first | exact Below.refl _ _ | assumption | (refine Below.alloc ?_ (by first | omega | (simp; done) | (simp; omega)) _) | (refine Below.setCell ?_ (by first | omega | (simp; done) | (simp; omega)) _) | (refine Below.drew ?_) | (refine Below.drewN ?_ _) | (refine Below.next (by assumption) ?_ (by first | omega | (simp; done) | (simp; omega))))))) (hn.below (by (repeat (first | exact Below.refl _ _ | assumption | (refine Below.alloc ?_ (by first | omega | (simp; done) | (simp; omega)) _) | (refine Below.setCell ?_ (by first | omega | (simp; done) | (simp; omega)) _) | (refine Below.drew ?_) | (refine Below.drewN ?_ _) | (refine Below.next (by assumption) ?_ (by first | omega | (simp; done) | (simp; omega))))))) r2 r1 HO.out G3.out hsg).mono ?_
        rintro e w0 ⟨A', c', rfl, hoT, hq0⟩
        have ho0 := own_below (HW.out.alloc (.cells #[.int .i64 s.x, .int .i64 s.y] 25)) hq0
        have hsz0 : wr.heap.size + 1 ≤ w0.heap.size := by have := hq0.size; simpa using this
        go_wp2_with fail
        refine (spreadHeard_any _ _ L O s _ (Mem.of_own hoT) r2 r3 r1 HO.out G3.out hsg).mono ?_
        rintro e w1 ⟨rfl, hq⟩
        have ho := own_below ho0 hq
        have hsz1 : wr.heap.size + 1 ≤ w1.heap.size := by have := hq.size; omega
        have hB1 : Below w.heap.size w w1 := by (repeat (first | exact Below.refl _ _ | assumption | (refine Below.alloc ?_ (by first | omega | (simp; done) | (simp; omega)) _) | (refine Below.setCell ?_ (by first | omega | (simp; done) | (simp; omega)) _) | (refine Below.drew ?_) | (refine Below.drewN ?_ _) | (refine Below.next (by assumption) ?_ (by first | omega | (simp; done) | (simp; omega)))))
        have HO2 := Lib.hid ho
        have HB := Lib.hid hB1
        clear ho hq hb hB1 e1 e2
      · go_wp2_with (at_builtin; refine wpList_append_one _ rfl (.tmp 48) (.tmp 50) 35 rfl w.heap.size 3 i0 (.int .i64 0) 1 8 Try.underlying35 hi hz0 hz1 hz2 rfl (by omega) _ _ _ rfl HO2.out _ _ _ rfl rfl rfl (by omega) (by omega) (by omega) ?_; intro v' w2 hown' hb2)
        go_roundw
        case rel =>
          have e3 := HST.out
          rw [if_pos hcmp] at e3
          have e4 := HLN.out
          rw [e3] at e4
          have e5 := HN.out
          simp at e4
          exact ⟨k + 1, n + 1, by omega, by omega, by go_num, by rw [e3, ints_snoc]; exact hown', Lib.hid (by rw [e3, List.length_append, e5]; rfl), HB.out.trans hb2⟩
        case measure => simp [intOf]; omega
      · go_wp2
        go_roundw
        case rel =>
          have e3 := HST.out
          rw [if_neg (by omega)] at e3
          exact ⟨k + 1, n, by omega, hn1, by go_num, by rw [e3]; exact HO2.out, Lib.hid (by rw [e3]; exact HN.out), HB.out⟩
        case measure => simp [intOf]; omega
    · go_wp2
      go_ret2
      have e1 : k = M.length := by omega
      subst e1
      have e5 := HN.out
      subst e5
      exact RetInts.some_ rfl HV.out hown rfl (by omega) (by (repeat (first | exact Below.refl _ _ | assumption | (refine Below.alloc ?_ (by first | omega | (simp; done) | (simp; omega)) _) | (refine Below.setCell ?_ (by first | omega | (simp; done) | (simp; omega)) _) | (refine Below.drew ?_) | (refine Below.drewN ?_ _) | (refine Below.next (by assumption) ?_ (by first | omega | (simp; done) | (simp; omega))))))

set_option maxRecDepth 100000 in
set_option maxHeartbeats 3200000 in
theorem spec_LateAt_any (A : Option Addr) (c : Nat) (L : List Sp) (B : Option Addr) (d : Nat) (O : List Int) (a : Sp) (m : Int) (w : World) (hm : Mem w A (spots L)) (hn : Mem w B (ints O)) (hl : L.length ≤ 1048576) (hl2 : O.length ≤ 1048576) : Calls Try.prog 47 #[.slice A L.length c, .slice B O.length d, .agg #[.int .i64 a.x, .int .i64 a.y], .int .i64 m] w
    (RetInts w (laV L O a m) ((entOk L O && isSp a) && inR m 0 4000)) := by
  obtain ⟨i0, hi, hz0, hz1, hz2⟩ := info_parts info_int
  cases h1 : entOk L O
  · go_enter Try.func47, Try.ntmps47
    go_wp2_with (first | (go_at_call 95; refine (lsGood_any _ _ L _ _ O _ (hm.below (by (repeat (first | exact Below.refl _ _ | assumption | (refine Below.alloc ?_ (by first | omega | (simp; done) | (simp; omega)) _) | (refine Below.setCell ?_ (by first | omega | (simp; done) | (simp; omega)) _) | (refine Below.drew ?_) | (refine Below.drewN ?_ _) | (refine Below.next (by assumption) ?_ (by first | omega | (simp; done) | (simp; omega))))))) (hn.below (by (repeat (first | exact Below.refl _ _ | assumption | (refine Below.alloc ?_ (by first | omega | (simp; done) | (simp; omega)) _) | (refine Below.setCell ?_ (by first | omega | (simp; done) | (simp; omega)) _) | (refine Below.drew ?_) | (refine Below.drewN ?_ _) | (refine Below.next (by assumption) ?_ (by first | omega | (simp; done) | (simp; omega))))))) hl hl2).mono ?_; rintro e w' ⟨rfl, hq⟩; obtain ⟨hz, hc, hf⟩ := bel hq; (try simp at hz); (try have gz1 : w.heap.size < w'.heap.size := by omega); (try have gz2 : w.heap.size + 1 < w'.heap.size := by omega); (try have gz3 : wr.heap.size < w'.heap.size := by omega)) | (go_at_call 84; refine (stGood_any _ _).mono ?_; rintro e w' ⟨rfl, o, rfl⟩) | (go_at_call 100; refine (lsMost_any _ _).mono ?_; rintro e w' ⟨rfl, rfl⟩))
    go_ret2
    exact RetInts.none_ (by simp [laV, h1]) rfl (by (repeat (first | exact Below.refl _ _ | assumption | (refine Below.alloc ?_ (by first | omega | (simp; done) | (simp; omega)) _) | (refine Below.setCell ?_ (by first | omega | (simp; done) | (simp; omega)) _) | (refine Below.drew ?_) | (refine Below.drewN ?_ _) | (refine Below.next (by assumption) ?_ (by first | omega | (simp; done) | (simp; omega))))))
  obtain ⟨g1, g2, g3⟩ := entOk_iff.1 h1
  have G3 := Lib.hid g3
  have HO := Lib.hid (off_all g2)
  clear g3
  obtain ⟨r1, r2, r3⟩ := srcOk_iff.1 g1
  cases h2 : isSp a
  · go_enter Try.func47, Try.ntmps47
    go_wp2_with (first | (go_at_call 95; refine (lsGood_any _ _ L _ _ O _ (hm.below (by (repeat (first | exact Below.refl _ _ | assumption | (refine Below.alloc ?_ (by first | omega | (simp; done) | (simp; omega)) _) | (refine Below.setCell ?_ (by first | omega | (simp; done) | (simp; omega)) _) | (refine Below.drew ?_) | (refine Below.drewN ?_ _) | (refine Below.next (by assumption) ?_ (by first | omega | (simp; done) | (simp; omega))))))) (hn.below (by (repeat (first | exact Below.refl _ _ | assumption | (refine Below.alloc ?_ (by first | omega | (simp; done) | (simp; omega)) _) | (refine Below.setCell ?_ (by first | omega | (simp; done) | (simp; omega)) _) | (refine Below.drew ?_) | (refine Below.drewN ?_ _) | (refine Below.next (by assumption) ?_ (by first | omega | (simp; done) | (simp; omega))))))) hl hl2).mono ?_; rintro e w' ⟨rfl, hq⟩; obtain ⟨hz, hc, hf⟩ := bel hq; (try simp at hz); (try have gz1 : w.heap.size < w'.heap.size := by omega); (try have gz2 : w.heap.size + 1 < w'.heap.size := by omega); (try have gz3 : wr.heap.size < w'.heap.size := by omega)) | (go_at_call 84; refine (stGood_any _ _).mono ?_; rintro e w' ⟨rfl, o, rfl⟩) | (go_at_call 100; refine (lsMost_any _ _).mono ?_; rintro e w' ⟨rfl, rfl⟩))
    go_ret2
    exact RetInts.none_ (by simp [laV, h2]) rfl (by (repeat (first | exact Below.refl _ _ | assumption | (refine Below.alloc ?_ (by first | omega | (simp; done) | (simp; omega)) _) | (refine Below.setCell ?_ (by first | omega | (simp; done) | (simp; omega)) _) | (refine Below.drew ?_) | (refine Below.drewN ?_ _) | (refine Below.next (by assumption) ?_ (by first | omega | (simp; done) | (simp; omega))))))
  cases h3 : inR m 0 4000
  · go_enter Try.func47, Try.ntmps47
    go_wp2_with (first | (go_at_call 95; refine (lsGood_any _ _ L _ _ O _ (hm.below (by (repeat (first | exact Below.refl _ _ | assumption | (refine Below.alloc ?_ (by first | omega | (simp; done) | (simp; omega)) _) | (refine Below.setCell ?_ (by first | omega | (simp; done) | (simp; omega)) _) | (refine Below.drew ?_) | (refine Below.drewN ?_ _) | (refine Below.next (by assumption) ?_ (by first | omega | (simp; done) | (simp; omega))))))) (hn.below (by (repeat (first | exact Below.refl _ _ | assumption | (refine Below.alloc ?_ (by first | omega | (simp; done) | (simp; omega)) _) | (refine Below.setCell ?_ (by first | omega | (simp; done) | (simp; omega)) _) | (refine Below.drew ?_) | (refine Below.drewN ?_ _) | (refine Below.next (by assumption) ?_ (by first | omega | (simp; done) | (simp; omega))))))) hl hl2).mono ?_; rintro e w' ⟨rfl, hq⟩; obtain ⟨hz, hc, hf⟩ := bel hq; (try simp at hz); (try have gz1 : w.heap.size < w'.heap.size := by omega); (try have gz2 : w.heap.size + 1 < w'.heap.size := by omega); (try have gz3 : wr.heap.size < w'.heap.size := by omega)) | (go_at_call 84; refine (stGood_any _ _).mono ?_; rintro e w' ⟨rfl, o, rfl⟩) | (go_at_call 100; refine (lsMost_any _ _).mono ?_; rintro e w' ⟨rfl, rfl⟩))
    go_ret2
    exact RetInts.none_ (by simp [laV, h3]) rfl (by (repeat (first | exact Below.refl _ _ | assumption | (refine Below.alloc ?_ (by first | omega | (simp; done) | (simp; omega)) _) | (refine Below.setCell ?_ (by first | omega | (simp; done) | (simp; omega)) _) | (refine Below.drew ?_) | (refine Below.drewN ?_ _) | (refine Below.next (by assumption) ?_ (by first | omega | (simp; done) | (simp; omega))))))
  have HV : Hid (laV L O a m = late (heard L O a) (lowOf (heard L O a) + m) L.length) := Lib.hid (by simp [laV, h1, h2, h3])
  have hmr := inR_iff.1 h3
  have hbd := hspr_bd r3 r1 HO.out G3.out h2
  have HBD := Lib.hid (heard_bd r1 HO.out h2)
  have HLT := Lib.hid (heard_len a G3.out)
  go_enter Try.func47, Try.ntmps47
  go_wp2_with (first | (go_at_call 95; refine (lsGood_any _ _ L _ _ O _ (hm.below (by (repeat (first | exact Below.refl _ _ | assumption | (refine Below.alloc ?_ (by first | omega | (simp; done) | (simp; omega)) _) | (refine Below.setCell ?_ (by first | omega | (simp; done) | (simp; omega)) _) | (refine Below.drew ?_) | (refine Below.drewN ?_ _) | (refine Below.next (by assumption) ?_ (by first | omega | (simp; done) | (simp; omega))))))) (hn.below (by (repeat (first | exact Below.refl _ _ | assumption | (refine Below.alloc ?_ (by first | omega | (simp; done) | (simp; omega)) _) | (refine Below.setCell ?_ (by first | omega | (simp; done) | (simp; omega)) _) | (refine Below.drew ?_) | (refine Below.drewN ?_ _) | (refine Below.next (by assumption) ?_ (by first | omega | (simp; done) | (simp; omega))))))) hl hl2).mono ?_; rintro e w' ⟨rfl, hq⟩; obtain ⟨hz, hc, hf⟩ := bel hq; (try simp at hz); (try have gz1 : w.heap.size < w'.heap.size := by omega); (try have gz2 : w.heap.size + 1 < w'.heap.size := by omega); (try have gz3 : wr.heap.size < w'.heap.size := by omega)) | (go_at_call 84; refine (stGood_any _ _).mono ?_; rintro e w' ⟨rfl, o, rfl⟩) | (go_at_call 100; refine (lsMost_any _ _).mono ?_; rintro e w' ⟨rfl, rfl⟩))
  refine (lsHeard_any _ _ L _ _ O a _ (hm.below (by (repeat (first | exact Below.refl _ _ | assumption | (refine Below.alloc ?_ (by first | omega | (simp; done) | (simp; omega)) _) | (refine Below.setCell ?_ (by first | omega | (simp; done) | (simp; omega)) _) | (refine Below.drew ?_) | (refine Below.drewN ?_ _) | (refine Below.next (by assumption) ?_ (by first | omega | (simp; done) | (simp; omega))))))) (hn.below (by (repeat (first | exact Below.refl _ _ | assumption | (refine Below.alloc ?_ (by first | omega | (simp; done) | (simp; omega)) _) | (refine Below.setCell ?_ (by first | omega | (simp; done) | (simp; omega)) _) | (refine Below.drew ?_) | (refine Below.drewN ?_ _) | (refine Below.next (by assumption) ?_ (by first | omega | (simp; done) | (simp; omega))))))) r2 r1 HO.out G3.out h2).mono ?_
  rintro e w1 ⟨A', c', rfl, hoT, hq1⟩
  have hs1 := hq1.size
  (try simp at hs1)
  have hB1 : Below w.heap.size w w1 := by (repeat (first | exact Below.refl _ _ | assumption | (refine Below.alloc ?_ (by first | omega | (simp; done) | (simp; omega)) _) | (refine Below.setCell ?_ (by first | omega | (simp; done) | (simp; omega)) _) | (refine Below.drew ?_) | (refine Below.drewN ?_ _) | (refine Below.next (by assumption) ?_ (by first | omega | (simp; done) | (simp; omega)))))
  go_wp2_with fail
  refine (endsHeard_any _ _ L O a _ ((Mem.of_own hoT).below (by (repeat (first | exact Below.refl _ _ | assumption | (refine Below.alloc ?_ (by first | omega | (simp; done) | (simp; omega)) _) | (refine Below.setCell ?_ (by first | omega | (simp; done) | (simp; omega)) _) | (refine Below.drew ?_) | (refine Below.drewN ?_ _) | (refine Below.next (by assumption) ?_ (by first | omega | (simp; done) | (simp; omega))))))) r2 r3 r1 HO.out G3.out h2).mono ?_
  rintro e w2 ⟨rfl, hq2⟩
  have hT : Mem w1 A' (ints (heard L O a)) := Mem.of_own hoT
  have hb2 : Below w1.heap.size w1 w2 := by exact hq2
  have hsz1 : w.heap.size ≤ w1.heap.size := hB1.size
  clear hq hz hc hf h1 h2 h3 g1 g2 hoT hq1 hq2
  go_wp2
  go_loopw [13, 14, 15, 41] (fun v _ _ i wr => ∃ k n : Nat, k ≤ L.length ∧ n ≤ 40 ∧ i = .int .i64 k ∧ wr.ownsRow w1.heap.size 3 1 v n (ints (late (heard L O a) (lowOf (heard L O a) + m) k)) ∧ Hid (n = (late (heard L O a) (lowOf (heard L O a) + m) k).length) ∧ Below w1.heap.size w1 wr) (fun _ _ _ i _ => L.length - (intOf i).toNat)
  case atStart => exact ⟨0, 0, by omega, by omega, rfl, by rw [late, pick_zero]; exact World.ownsRow_nil _ _ _ _, Lib.hid (by rw [late, pick_zero]; rfl), hb2⟩
  case round =>
    obtain ⟨k, n, hk, hn1, rfl, hown, HN, hb⟩ := hrel
    by_cases hlt : k < L.length
    · obtain ⟨t, ht⟩ := some_of_lt (L := heard L O a) (k := k) (by rw [HLT.out]; exact hlt)
      obtain ⟨b, off, rfl, e1⟩ := (hT.below hb).int ht
      have htb := HBD.out t (List.mem_of_getElem? ht)
      have HST := Lib.hid (late_succ (m := lowOf (heard L O a) + m) ht)
      have hlen := late_len (heard L O a) (lowOf (heard L O a) + m) (k + 1)
      rw [HLT.out] at hlen
      have HLN := Lib.hid hlen
      have HW := Lib.hid hown
      have HB := Lib.hid hb
      have hszb := hb.size
      clear ht hown hlen hb
      by_cases hcmp : m < t - lowOf (heard L O a)
      · go_wp2_with (at_builtin; refine wpList_append_one _ rfl (.tmp 51) (.tmp 53) 35 rfl w1.heap.size 3 i0 (.int .i64 0) 1 8 Try.underlying35 hi hz0 hz1 hz2 rfl (by omega) _ _ _ rfl HW.out _ _ _ rfl rfl rfl (by omega) (by omega) (by omega) ?_; intro v' w3 hown' hb3)
        go_roundw
        case rel =>
          have e3 := HST.out
          rw [if_pos (by omega)] at e3
          have e4 := HLN.out
          rw [e3] at e4
          have e5 := HN.out
          simp at e4
          exact ⟨k + 1, n + 1, by omega, by omega, by go_num, by rw [e3, ints_snoc]; exact hown', Lib.hid (by rw [e3, List.length_append, e5]; rfl), HB.out.trans hb3⟩
        case measure => simp [intOf]; omega
      · go_wp2
        go_roundw
        case rel =>
          have e3 := HST.out
          rw [if_neg (by omega)] at e3
          exact ⟨k + 1, n, by omega, hn1, by go_num, by rw [e3]; exact HW.out, Lib.hid (by rw [e3]; exact HN.out), HB.out⟩
        case measure => simp [intOf]; omega
    · go_wp2
      go_ret2
      have e1 : k = L.length := by omega
      subst e1
      have e5 := HN.out
      subst e5
      exact RetInts.some_ rfl HV.out hown rfl hsz1 (hB1.trans (hb.mono hsz1))

set_option maxRecDepth 100000 in
set_option maxHeartbeats 3200000 in
theorem impl_LateAt_any (A : Option Addr) (c : Nat) (L : List Sp) (B : Option Addr) (d : Nat) (O : List Int) (a : Sp) (m : Int) (w : World) (hm : Mem w A (spots L)) (hn : Mem w B (ints O)) (hl : L.length ≤ 1048576) (hl2 : O.length ≤ 1048576) : Calls Try.prog 46 #[.slice A L.length c, .slice B O.length d, .agg #[.int .i64 a.x, .int .i64 a.y], .int .i64 m] w
    (RetInts w (laV L O a m) ((entOk L O && isSp a) && inR m 0 4000)) := by
  obtain ⟨i0, hi, hz0, hz1, hz2⟩ := info_parts info_int
  cases h1 : entOk L O
  · go_enter Try.func46, Try.ntmps46
    go_wp2_with (first | (go_at_call 93; refine (areEntries_any _ _ L _ _ O _ (hm.below (by (repeat (first | exact Below.refl _ _ | assumption | (refine Below.alloc ?_ (by first | omega | (simp; done) | (simp; omega)) _) | (refine Below.setCell ?_ (by first | omega | (simp; done) | (simp; omega)) _) | (refine Below.drew ?_) | (refine Below.drewN ?_ _) | (refine Below.next (by assumption) ?_ (by first | omega | (simp; done) | (simp; omega))))))) (hn.below (by (repeat (first | exact Below.refl _ _ | assumption | (refine Below.alloc ?_ (by first | omega | (simp; done) | (simp; omega)) _) | (refine Below.setCell ?_ (by first | omega | (simp; done) | (simp; omega)) _) | (refine Below.drew ?_) | (refine Below.drewN ?_ _) | (refine Below.next (by assumption) ?_ (by first | omega | (simp; done) | (simp; omega))))))) hl hl2).mono ?_; rintro e w' ⟨rfl, hq⟩; obtain ⟨hz, hc, hf⟩ := bel hq; (try simp at hz); (try have gz1 : w.heap.size < w'.heap.size := by omega); (try have gz2 : w.heap.size + 1 < w'.heap.size := by omega); (try have gz3 : wr.heap.size < w'.heap.size := by omega)) | (go_at_call 73; refine (isSpot_any _ _).mono ?_; rintro e w' ⟨rfl, o, rfl⟩) | (go_at_call 78; refine (within_any _ _ _ _).mono ?_; rintro e w' ⟨rfl, rfl⟩))
    go_ret2
    exact RetInts.none_ (by simp [laV, h1]) rfl (by (repeat (first | exact Below.refl _ _ | assumption | (refine Below.alloc ?_ (by first | omega | (simp; done) | (simp; omega)) _) | (refine Below.setCell ?_ (by first | omega | (simp; done) | (simp; omega)) _) | (refine Below.drew ?_) | (refine Below.drewN ?_ _) | (refine Below.next (by assumption) ?_ (by first | omega | (simp; done) | (simp; omega))))))
  obtain ⟨g1, g2, g3⟩ := entOk_iff.1 h1
  have G3 := Lib.hid g3
  have HO := Lib.hid (off_all g2)
  clear g3
  obtain ⟨r1, r2, r3⟩ := srcOk_iff.1 g1
  cases h2 : isSp a
  · go_enter Try.func46, Try.ntmps46
    go_wp2_with (first | (go_at_call 93; refine (areEntries_any _ _ L _ _ O _ (hm.below (by (repeat (first | exact Below.refl _ _ | assumption | (refine Below.alloc ?_ (by first | omega | (simp; done) | (simp; omega)) _) | (refine Below.setCell ?_ (by first | omega | (simp; done) | (simp; omega)) _) | (refine Below.drew ?_) | (refine Below.drewN ?_ _) | (refine Below.next (by assumption) ?_ (by first | omega | (simp; done) | (simp; omega))))))) (hn.below (by (repeat (first | exact Below.refl _ _ | assumption | (refine Below.alloc ?_ (by first | omega | (simp; done) | (simp; omega)) _) | (refine Below.setCell ?_ (by first | omega | (simp; done) | (simp; omega)) _) | (refine Below.drew ?_) | (refine Below.drewN ?_ _) | (refine Below.next (by assumption) ?_ (by first | omega | (simp; done) | (simp; omega))))))) hl hl2).mono ?_; rintro e w' ⟨rfl, hq⟩; obtain ⟨hz, hc, hf⟩ := bel hq; (try simp at hz); (try have gz1 : w.heap.size < w'.heap.size := by omega); (try have gz2 : w.heap.size + 1 < w'.heap.size := by omega); (try have gz3 : wr.heap.size < w'.heap.size := by omega)) | (go_at_call 73; refine (isSpot_any _ _).mono ?_; rintro e w' ⟨rfl, o, rfl⟩) | (go_at_call 78; refine (within_any _ _ _ _).mono ?_; rintro e w' ⟨rfl, rfl⟩))
    go_ret2
    exact RetInts.none_ (by simp [laV, h2]) rfl (by (repeat (first | exact Below.refl _ _ | assumption | (refine Below.alloc ?_ (by first | omega | (simp; done) | (simp; omega)) _) | (refine Below.setCell ?_ (by first | omega | (simp; done) | (simp; omega)) _) | (refine Below.drew ?_) | (refine Below.drewN ?_ _) | (refine Below.next (by assumption) ?_ (by first | omega | (simp; done) | (simp; omega))))))
  cases h3 : inR m 0 4000
  · go_enter Try.func46, Try.ntmps46
    go_wp2_with (first | (go_at_call 93; refine (areEntries_any _ _ L _ _ O _ (hm.below (by (repeat (first | exact Below.refl _ _ | assumption | (refine Below.alloc ?_ (by first | omega | (simp; done) | (simp; omega)) _) | (refine Below.setCell ?_ (by first | omega | (simp; done) | (simp; omega)) _) | (refine Below.drew ?_) | (refine Below.drewN ?_ _) | (refine Below.next (by assumption) ?_ (by first | omega | (simp; done) | (simp; omega))))))) (hn.below (by (repeat (first | exact Below.refl _ _ | assumption | (refine Below.alloc ?_ (by first | omega | (simp; done) | (simp; omega)) _) | (refine Below.setCell ?_ (by first | omega | (simp; done) | (simp; omega)) _) | (refine Below.drew ?_) | (refine Below.drewN ?_ _) | (refine Below.next (by assumption) ?_ (by first | omega | (simp; done) | (simp; omega))))))) hl hl2).mono ?_; rintro e w' ⟨rfl, hq⟩; obtain ⟨hz, hc, hf⟩ := bel hq; (try simp at hz); (try have gz1 : w.heap.size < w'.heap.size := by omega); (try have gz2 : w.heap.size + 1 < w'.heap.size := by omega); (try have gz3 : wr.heap.size < w'.heap.size := by omega)) | (go_at_call 73; refine (isSpot_any _ _).mono ?_; rintro e w' ⟨rfl, o, rfl⟩) | (go_at_call 78; refine (within_any _ _ _ _).mono ?_; rintro e w' ⟨rfl, rfl⟩))
    go_ret2
    exact RetInts.none_ (by simp [laV, h3]) rfl (by (repeat (first | exact Below.refl _ _ | assumption | (refine Below.alloc ?_ (by first | omega | (simp; done) | (simp; omega)) _) | (refine Below.setCell ?_ (by first | omega | (simp; done) | (simp; omega)) _) | (refine Below.drew ?_) | (refine Below.drewN ?_ _) | (refine Below.next (by assumption) ?_ (by first | omega | (simp; done) | (simp; omega))))))
  have HV : Hid (laV L O a m = late (heard L O a) (lowOf (heard L O a) + m) L.length) := Lib.hid (by simp [laV, h1, h2, h3])
  have hmr := inR_iff.1 h3
  have hbd := hspr_bd r3 r1 HO.out G3.out h2
  have HBD := Lib.hid (heard_bd r1 HO.out h2)
  have HLT := Lib.hid (heard_len a G3.out)
  go_enter Try.func46, Try.ntmps46
  go_wp2_with (first | (go_at_call 93; refine (areEntries_any _ _ L _ _ O _ (hm.below (by (repeat (first | exact Below.refl _ _ | assumption | (refine Below.alloc ?_ (by first | omega | (simp; done) | (simp; omega)) _) | (refine Below.setCell ?_ (by first | omega | (simp; done) | (simp; omega)) _) | (refine Below.drew ?_) | (refine Below.drewN ?_ _) | (refine Below.next (by assumption) ?_ (by first | omega | (simp; done) | (simp; omega))))))) (hn.below (by (repeat (first | exact Below.refl _ _ | assumption | (refine Below.alloc ?_ (by first | omega | (simp; done) | (simp; omega)) _) | (refine Below.setCell ?_ (by first | omega | (simp; done) | (simp; omega)) _) | (refine Below.drew ?_) | (refine Below.drewN ?_ _) | (refine Below.next (by assumption) ?_ (by first | omega | (simp; done) | (simp; omega))))))) hl hl2).mono ?_; rintro e w' ⟨rfl, hq⟩; obtain ⟨hz, hc, hf⟩ := bel hq; (try simp at hz); (try have gz1 : w.heap.size < w'.heap.size := by omega); (try have gz2 : w.heap.size + 1 < w'.heap.size := by omega); (try have gz3 : wr.heap.size < w'.heap.size := by omega)) | (go_at_call 73; refine (isSpot_any _ _).mono ?_; rintro e w' ⟨rfl, o, rfl⟩) | (go_at_call 78; refine (within_any _ _ _ _).mono ?_; rintro e w' ⟨rfl, rfl⟩))
  refine (heardTimes_any _ _ L _ _ O a _ (hm.below (by (repeat (first | exact Below.refl _ _ | assumption | (refine Below.alloc ?_ (by first | omega | (simp; done) | (simp; omega)) _) | (refine Below.setCell ?_ (by first | omega | (simp; done) | (simp; omega)) _) | (refine Below.drew ?_) | (refine Below.drewN ?_ _) | (refine Below.next (by assumption) ?_ (by first | omega | (simp; done) | (simp; omega))))))) (hn.below (by (repeat (first | exact Below.refl _ _ | assumption | (refine Below.alloc ?_ (by first | omega | (simp; done) | (simp; omega)) _) | (refine Below.setCell ?_ (by first | omega | (simp; done) | (simp; omega)) _) | (refine Below.drew ?_) | (refine Below.drewN ?_ _) | (refine Below.next (by assumption) ?_ (by first | omega | (simp; done) | (simp; omega))))))) r2 r1 HO.out G3.out h2).mono ?_
  rintro e w1 ⟨A', c', rfl, hoT, hq1⟩
  have hs1 := hq1.size
  (try simp at hs1)
  have hB1 : Below w.heap.size w w1 := by (repeat (first | exact Below.refl _ _ | assumption | (refine Below.alloc ?_ (by first | omega | (simp; done) | (simp; omega)) _) | (refine Below.setCell ?_ (by first | omega | (simp; done) | (simp; omega)) _) | (refine Below.drew ?_) | (refine Below.drewN ?_ _) | (refine Below.next (by assumption) ?_ (by first | omega | (simp; done) | (simp; omega)))))
  go_wp2_with fail
  refine (spreadHeard_any _ _ L O a _ ((Mem.of_own hoT).below (by (repeat (first | exact Below.refl _ _ | assumption | (refine Below.alloc ?_ (by first | omega | (simp; done) | (simp; omega)) _) | (refine Below.setCell ?_ (by first | omega | (simp; done) | (simp; omega)) _) | (refine Below.drew ?_) | (refine Below.drewN ?_ _) | (refine Below.next (by assumption) ?_ (by first | omega | (simp; done) | (simp; omega))))))) r2 r3 r1 HO.out G3.out h2).mono ?_
  rintro e w2 ⟨rfl, hq2⟩
  have hT : Mem w1 A' (ints (heard L O a)) := Mem.of_own hoT
  have hb2 : Below w1.heap.size w1 w2 := by (repeat (first | exact Below.refl _ _ | assumption | (refine Below.alloc ?_ (by first | omega | (simp; done) | (simp; omega)) _) | (refine Below.setCell ?_ (by first | omega | (simp; done) | (simp; omega)) _) | (refine Below.drew ?_) | (refine Below.drewN ?_ _) | (refine Below.next (by assumption) ?_ (by first | omega | (simp; done) | (simp; omega)))))
  have hsz1 : w.heap.size ≤ w1.heap.size := hB1.size
  have hown0 : Hid (w2.ownsRow w1.heap.size 3 1 (.slice (some ⟨w1.heap.size, 0, none⟩) 0 0) 0 []) := Lib.hid (own_below (own_empty 3 1 rfl (Nat.le_refl _) rfl) hq2)
  clear hq hz hc hf h1 h2 h3 g1 g2 hoT hq1 hq2
  go_wp2
  go_loopw [11, 14, 15, 42] (fun v _ _ i wr => ∃ k n : Nat, k ≤ L.length ∧ n ≤ 40 ∧ i = .int .i64 k ∧ wr.ownsRow w1.heap.size 3 1 v n (ints (late (heard L O a) (lowOf (heard L O a) + m) k)) ∧ Hid (n = (late (heard L O a) (lowOf (heard L O a) + m) k).length) ∧ Below w1.heap.size w1 wr) (fun _ _ _ i _ => L.length - (intOf i).toNat)
  case atStart => exact ⟨0, 0, by omega, by omega, rfl, by rw [late, pick_zero]; exact hown0.out, Lib.hid (by rw [late, pick_zero]; rfl), hb2⟩
  case round =>
    obtain ⟨k, n, hk, hn1, rfl, hown, HN, hb⟩ := hrel
    by_cases hlt : k < L.length
    · obtain ⟨t, ht⟩ := some_of_lt (L := heard L O a) (k := k) (by rw [HLT.out]; exact hlt)
      obtain ⟨b, off, rfl, e1⟩ := (hT.below hb).int ht
      have htb := HBD.out t (List.mem_of_getElem? ht)
      have HST := Lib.hid (late_succ (m := lowOf (heard L O a) + m) ht)
      have hlen := late_len (heard L O a) (lowOf (heard L O a) + m) (k + 1)
      rw [HLT.out] at hlen
      have HLN := Lib.hid hlen
      have HW := Lib.hid hown
      have HB := Lib.hid hb
      have hszb := hb.size
      clear ht hown hlen hb
      by_cases hcmp : m < t - lowOf (heard L O a)
      · go_wp2_with (at_builtin; refine wpList_append_one _ rfl (.tmp 52) (.tmp 54) 35 rfl w1.heap.size 3 i0 (.int .i64 0) 1 8 Try.underlying35 hi hz0 hz1 hz2 rfl (by omega) _ _ _ rfl HW.out _ _ _ rfl rfl rfl (by omega) (by omega) (by omega) ?_; intro v' w3 hown' hb3)
        go_roundw
        case rel =>
          have e3 := HST.out
          rw [if_pos (by omega)] at e3
          have e4 := HLN.out
          rw [e3] at e4
          have e5 := HN.out
          simp at e4
          exact ⟨k + 1, n + 1, by omega, by omega, by go_num, by rw [e3, ints_snoc]; exact hown', Lib.hid (by rw [e3, List.length_append, e5]; rfl), HB.out.trans hb3⟩
        case measure => simp [intOf]; omega
      · go_wp2
        go_roundw
        case rel =>
          have e3 := HST.out
          rw [if_neg (by omega)] at e3
          exact ⟨k + 1, n, by omega, hn1, by go_num, by rw [e3]; exact HW.out, Lib.hid (by rw [e3]; exact HN.out), HB.out⟩
        case measure => simp [intOf]; omega
    · go_wp2
      go_ret2
      have e1 : k = L.length := by omega
      subst e1
      have e5 := HN.out
      subst e5
      exact RetInts.some_ rfl HV.out hown rfl hsz1 (hB1.trans (hb.mono hsz1))

end Go.Proofs.Ytdipmjflgjlfeaa
