/-
  Contracts: absences, open spots, spare performers, covers.
-/
import Derived.Test.YthppancpecjegaaCh
import Derived.Test.YthppancpecjegaaCpy
import Derived.Test.YthppancpecjegaaApp
namespace Go.Proofs.Ythppancpecjegaa
open Go.RowKit

theorem own_cap {w : World} {base : Nat} {e : TypeId} {size : Nat} {A : Option Addr} {n c : Nat} {xs : List Value} (h : w.ownsRow base e size (.slice A n c) n xs) : n ≤ c := by
  rcases h.2 with ⟨_, h2⟩ | ⟨g, cap, cur, hv, _, _, h3, _⟩
  · omega
  · simp only [Value.slice.injEq] at hv
    omega
/-- A call hands back numbers in memory of its own. -/
def RetRow (w : World) (V : List Int) (e : Ending) (w' : World) : Prop :=
  ∃ A' c', e = .returned (.slice A' V.length c') ∧ w'.ownsRow w.heap.size 3 1 (.slice A' V.length c') V.length (ints V) ∧ Below w.heap.size w w'
theorem RetRow.mk {w w' : World} {V : List Int} {v : Value} {n base : Nat} (ho : w'.ownsRow base 3 1 v n (ints V)) (hn : n = V.length) (hbase : w.heap.size ≤ base) (hb : Below w.heap.size w w') : RetRow w V (.returned v) w' := by
  subst hn
  obtain ⟨A', c', rfl⟩ := own_form ho
  exact ⟨A', c', rfl, own_base ho hbase, hb⟩
theorem opens_step {a n : List Int} {k : Nat} {x : Int} (h : n[k]? = some x) : (n.take (k + 1)).filter (has a) = if has a x then (n.take k).filter (has a) ++ [x] else (n.take k).filter (has a) := filter_take_succ h
theorem opens_all {a n : List Int} {k : Nat} (h : n.length ≤ k) : (n.take k).filter (has a) = opens a n := by rw [List.take_of_length_le h]; rfl
theorem take_filter_len (a n : List Int) (k : Nat) : ((n.take k).filter (has a)).length ≤ n.length :=
  Nat.le_trans (List.length_filter_le _ _) (by simp; omega)

set_option maxRecDepth 100000 in
theorem abAsked_any (A : Option Addr) (c : Nat) (L : List Sp) (B : Option Addr) (d : Nat) (a : List Int) (C : Option Addr) (f : Nat) (n : List Int) (w : World) (hm : Mem w A (spots L)) (ha : Mem w B (ints a)) (hn : Mem w C (ints n)) (hl : L.length ≤ 1048576) (hl2 : a.length ≤ 1048576) (hl3 : n.length ≤ 1048576) (hlc : L.length ≤ c) : Calls Try.prog 43 #[.slice A L.length c, .slice B a.length d, .slice C n.length f] w fun e w' => e = .returned (.bool (abOk L a n)) ∧ Below w.heap.size w w' := by
  have e0 : Hid (abOk L a n = ((chOk L && riseOk a (L.length - 1)) && riseOk n (L.length - 1))) := Lib.hid rfl
  cases h1 : chOk L
  · go_enter Try.func43, Try.ntmps43
    go_wp2_with (go_at_call 72; refine (chGood_any _ _ L _ (hm.below (by (repeat (first | exact Below.refl _ _ | assumption | (refine Below.alloc ?_ (by first | omega | (simp; done) | (simp; omega)) _) | (refine Below.setCell ?_ (by first | omega | (simp; done) | (simp; omega)) _) | (refine Below.drew ?_) | (refine Below.drewN ?_ _) | (refine Below.next (by assumption) ?_ (by first | omega | (simp; done) | (simp; omega))))))) hl hlc).mono ?_; rintro e w' ⟨rfl, hq⟩; obtain ⟨hz, hc, hf⟩ := bel hq; (try simp at hz); (try have gz1 : w.heap.size < w'.heap.size := by omega); (try have gz2 : w.heap.size + 1 < w'.heap.size := by omega); (try have gz3 : wr.heap.size < w'.heap.size := by omega))
    go_ret
    exact ⟨ret_bool (by rw [e0.out, h1]; rfl), by (repeat (first | exact Below.refl _ _ | assumption | (refine Below.alloc ?_ (by first | omega | (simp; done) | (simp; omega)) _) | (refine Below.setCell ?_ (by first | omega | (simp; done) | (simp; omega)) _) | (refine Below.drew ?_) | (refine Below.drewN ?_ _) | (refine Below.next (by assumption) ?_ (by first | omega | (simp; done) | (simp; omega)))))⟩
  cases h2 : riseOk a (L.length - 1)
  · go_enter Try.func43, Try.ntmps43
    go_wp2_with (first | (go_at_call 72; refine (chGood_any _ _ L _ (hm.below (by (repeat (first | exact Below.refl _ _ | assumption | (refine Below.alloc ?_ (by first | omega | (simp; done) | (simp; omega)) _) | (refine Below.setCell ?_ (by first | omega | (simp; done) | (simp; omega)) _) | (refine Below.drew ?_) | (refine Below.drewN ?_ _) | (refine Below.next (by assumption) ?_ (by first | omega | (simp; done) | (simp; omega))))))) hl hlc).mono ?_; rintro e w' ⟨rfl, hq⟩; obtain ⟨hz, hc, hf⟩ := bel hq; (try simp at hz); (try have gz1 : w.heap.size < w'.heap.size := by omega); (try have gz2 : w.heap.size + 1 < w'.heap.size := by omega); (try have gz3 : wr.heap.size < w'.heap.size := by omega)) | (go_at_call 73; refine (l1Rising_any _ _ a (L.length - 1) _ (ha.below (by (repeat (first | exact Below.refl _ _ | assumption | (refine Below.alloc ?_ (by first | omega | (simp; done) | (simp; omega)) _) | (refine Below.setCell ?_ (by first | omega | (simp; done) | (simp; omega)) _) | (refine Below.drew ?_) | (refine Below.drewN ?_ _) | (refine Below.next (by assumption) ?_ (by first | omega | (simp; done) | (simp; omega))))))) hl2 (by omega) (by omega)).mono ?_; rintro e w' ⟨rfl, rfl⟩))
    go_ret
    exact ⟨ret_bool (by rw [e0.out, h1, h2]; rfl), by (repeat (first | exact Below.refl _ _ | assumption | (refine Below.alloc ?_ (by first | omega | (simp; done) | (simp; omega)) _) | (refine Below.setCell ?_ (by first | omega | (simp; done) | (simp; omega)) _) | (refine Below.drew ?_) | (refine Below.drewN ?_ _) | (refine Below.next (by assumption) ?_ (by first | omega | (simp; done) | (simp; omega)))))⟩
  · go_enter Try.func43, Try.ntmps43
    go_wp2_with (first | (go_at_call 72; refine (chGood_any _ _ L _ (hm.below (by (repeat (first | exact Below.refl _ _ | assumption | (refine Below.alloc ?_ (by first | omega | (simp; done) | (simp; omega)) _) | (refine Below.setCell ?_ (by first | omega | (simp; done) | (simp; omega)) _) | (refine Below.drew ?_) | (refine Below.drewN ?_ _) | (refine Below.next (by assumption) ?_ (by first | omega | (simp; done) | (simp; omega))))))) hl hlc).mono ?_; rintro e w' ⟨rfl, hq⟩; obtain ⟨hz, hc, hf⟩ := bel hq; (try simp at hz); (try have gz1 : w.heap.size < w'.heap.size := by omega); (try have gz2 : w.heap.size + 1 < w'.heap.size := by omega); (try have gz3 : wr.heap.size < w'.heap.size := by omega)) | (go_at_call 73; refine (l1Rising_any _ _ _ (L.length - 1) _ (Mem.below (by assumption) (by (repeat (first | exact Below.refl _ _ | assumption | (refine Below.alloc ?_ (by first | omega | (simp; done) | (simp; omega)) _) | (refine Below.setCell ?_ (by first | omega | (simp; done) | (simp; omega)) _) | (refine Below.drew ?_) | (refine Below.drewN ?_ _) | (refine Below.next (by assumption) ?_ (by first | omega | (simp; done) | (simp; omega))))))) (by assumption) (by omega) (by omega)).mono ?_; rintro e w' ⟨rfl, rfl⟩))
    go_ret
    exact ⟨ret_bool (by rw [e0.out, h1, h2]; rfl), by (repeat (first | exact Below.refl _ _ | assumption | (refine Below.alloc ?_ (by first | omega | (simp; done) | (simp; omega)) _) | (refine Below.setCell ?_ (by first | omega | (simp; done) | (simp; omega)) _) | (refine Below.drew ?_) | (refine Below.drewN ?_ _) | (refine Below.next (by assumption) ?_ (by first | omega | (simp; done) | (simp; omega)))))⟩

set_option maxRecDepth 100000 in
theorem IsAbsence_any (A : Option Addr) (c : Nat) (L : List Sp) (B : Option Addr) (d : Nat) (a : List Int) (C : Option Addr) (f : Nat) (n : List Int) (w : World) (hm : Mem w A (spots L)) (ha : Mem w B (ints a)) (hn : Mem w C (ints n)) (hl : L.length ≤ 1048576) (hl2 : a.length ≤ 1048576) (hl3 : n.length ≤ 1048576) (hlc : L.length ≤ c) : Calls Try.prog 40 #[.slice A L.length c, .slice B a.length d, .slice C n.length f] w fun e w' => e = .returned (.bool (abOk L a n)) ∧ Below w.heap.size w w' := by
  have e0 : Hid (abOk L a n = ((chOk L && riseOk a (L.length - 1)) && riseOk n (L.length - 1))) := Lib.hid rfl
  cases h1 : chOk L
  · go_enter Try.func40, Try.ntmps40
    go_wp2_with (go_at_call 41; refine (IsChart_any _ _ L _ (hm.below (by (repeat (first | exact Below.refl _ _ | assumption | (refine Below.alloc ?_ (by first | omega | (simp; done) | (simp; omega)) _) | (refine Below.setCell ?_ (by first | omega | (simp; done) | (simp; omega)) _) | (refine Below.drew ?_) | (refine Below.drewN ?_ _) | (refine Below.next (by assumption) ?_ (by first | omega | (simp; done) | (simp; omega))))))) hl hlc).mono ?_; rintro e w' ⟨rfl, hq⟩; obtain ⟨hz, hc, hf⟩ := bel hq; (try simp at hz); (try have gz1 : w.heap.size < w'.heap.size := by omega); (try have gz2 : w.heap.size + 1 < w'.heap.size := by omega); (try have gz3 : wr.heap.size < w'.heap.size := by omega))
    go_ret
    exact ⟨ret_bool (by rw [e0.out, h1]; rfl), by (repeat (first | exact Below.refl _ _ | assumption | (refine Below.alloc ?_ (by first | omega | (simp; done) | (simp; omega)) _) | (refine Below.setCell ?_ (by first | omega | (simp; done) | (simp; omega)) _) | (refine Below.drew ?_) | (refine Below.drewN ?_ _) | (refine Below.next (by assumption) ?_ (by first | omega | (simp; done) | (simp; omega)))))⟩
  cases h2 : riseOk a (L.length - 1)
  · go_enter Try.func40, Try.ntmps40
    go_wp2_with (first | (go_at_call 41; refine (IsChart_any _ _ L _ (hm.below (by (repeat (first | exact Below.refl _ _ | assumption | (refine Below.alloc ?_ (by first | omega | (simp; done) | (simp; omega)) _) | (refine Below.setCell ?_ (by first | omega | (simp; done) | (simp; omega)) _) | (refine Below.drew ?_) | (refine Below.drewN ?_ _) | (refine Below.next (by assumption) ?_ (by first | omega | (simp; done) | (simp; omega))))))) hl hlc).mono ?_; rintro e w' ⟨rfl, hq⟩; obtain ⟨hz, hc, hf⟩ := bel hq; (try simp at hz); (try have gz1 : w.heap.size < w'.heap.size := by omega); (try have gz2 : w.heap.size + 1 < w'.heap.size := by omega); (try have gz3 : wr.heap.size < w'.heap.size := by omega)) | (go_at_call 69; refine (arePerformers_any _ _ a L.length (L.length - 1) _ (ha.below (by (repeat (first | exact Below.refl _ _ | assumption | (refine Below.alloc ?_ (by first | omega | (simp; done) | (simp; omega)) _) | (refine Below.setCell ?_ (by first | omega | (simp; done) | (simp; omega)) _) | (refine Below.drew ?_) | (refine Below.drewN ?_ _) | (refine Below.next (by assumption) ?_ (by first | omega | (simp; done) | (simp; omega))))))) hl2 rfl (by omega) (by omega)).mono ?_; rintro e w' ⟨rfl, rfl⟩))
    go_ret
    exact ⟨ret_bool (by rw [e0.out, h1, h2]; rfl), by (repeat (first | exact Below.refl _ _ | assumption | (refine Below.alloc ?_ (by first | omega | (simp; done) | (simp; omega)) _) | (refine Below.setCell ?_ (by first | omega | (simp; done) | (simp; omega)) _) | (refine Below.drew ?_) | (refine Below.drewN ?_ _) | (refine Below.next (by assumption) ?_ (by first | omega | (simp; done) | (simp; omega)))))⟩
  · go_enter Try.func40, Try.ntmps40
    go_wp2_with (first | (go_at_call 41; refine (IsChart_any _ _ L _ (hm.below (by (repeat (first | exact Below.refl _ _ | assumption | (refine Below.alloc ?_ (by first | omega | (simp; done) | (simp; omega)) _) | (refine Below.setCell ?_ (by first | omega | (simp; done) | (simp; omega)) _) | (refine Below.drew ?_) | (refine Below.drewN ?_ _) | (refine Below.next (by assumption) ?_ (by first | omega | (simp; done) | (simp; omega))))))) hl hlc).mono ?_; rintro e w' ⟨rfl, hq⟩; obtain ⟨hz, hc, hf⟩ := bel hq; (try simp at hz); (try have gz1 : w.heap.size < w'.heap.size := by omega); (try have gz2 : w.heap.size + 1 < w'.heap.size := by omega); (try have gz3 : wr.heap.size < w'.heap.size := by omega)) | (go_at_call 69; refine (arePerformers_any _ _ _ L.length (L.length - 1) _ (Mem.below (by assumption) (by (repeat (first | exact Below.refl _ _ | assumption | (refine Below.alloc ?_ (by first | omega | (simp; done) | (simp; omega)) _) | (refine Below.setCell ?_ (by first | omega | (simp; done) | (simp; omega)) _) | (refine Below.drew ?_) | (refine Below.drewN ?_ _) | (refine Below.next (by assumption) ?_ (by first | omega | (simp; done) | (simp; omega))))))) (by assumption) rfl (by omega) (by omega)).mono ?_; rintro e w' ⟨rfl, rfl⟩))
    go_ret
    exact ⟨ret_bool (by rw [e0.out, h1, h2]; rfl), by (repeat (first | exact Below.refl _ _ | assumption | (refine Below.alloc ?_ (by first | omega | (simp; done) | (simp; omega)) _) | (refine Below.setCell ?_ (by first | omega | (simp; done) | (simp; omega)) _) | (refine Below.drew ?_) | (refine Below.drewN ?_ _) | (refine Below.next (by assumption) ?_ (by first | omega | (simp; done) | (simp; omega)))))⟩

set_option maxHeartbeats 800000 in
set_option maxRecDepth 100000 in
theorem abOpen_any (B : Option Addr) (d : Nat) (a : List Int) (C : Option Addr) (f : Nat) (n : List Int) (w : World) (ha : Mem w B (ints a)) (hn : Mem w C (ints n)) (hl2 : a.length ≤ 1048576) (hl3 : n.length ≤ 1048576) : Calls Try.prog 54 #[.slice B a.length d, .slice C n.length f] w (RetRow w (opens a n)) := by
  obtain ⟨i0, hi, hz0, hz1, hz2⟩ := info_parts info_int
  go_enter Try.func54, Try.ntmps54
  go_wp2
  go_loopw [5, 7, 10] (fun v _ i wr => ∃ k j : Nat, k ≤ n.length ∧ j ≤ n.length ∧ i = .int .i64 k ∧ wr.ownsRow w.heap.size 3 1 v j (ints ((n.take k).filter (has a))) ∧ Hid (j = ((n.take k).filter (has a)).length) ∧ Below w.heap.size w wr) (fun _ _ i _ => n.length - (intOf i).toNat)
  case atStart => exact ⟨0, 0, by omega, by omega, rfl, World.ownsRow_nil _ _ _ _, Lib.hid rfl, by (repeat (first | exact Below.refl _ _ | assumption | (refine Below.alloc ?_ (by first | omega | (simp; done) | (simp; omega)) _) | (refine Below.setCell ?_ (by first | omega | (simp; done) | (simp; omega)) _) | (refine Below.drew ?_) | (refine Below.drewN ?_ _) | (refine Below.next (by assumption) ?_ (by first | omega | (simp; done) | (simp; omega)))))⟩
  case round =>
    obtain ⟨k, j, hk, hj, rfl, hown, HJ, hb⟩ := hrel
    have hsz := hb.size
    by_cases hlt : k < n.length
    · obtain ⟨x, hx⟩ := some_of_lt hlt
      obtain ⟨b, off, rfl, h1⟩ := (hn.below hb).int hx
      have hstep := opens_step (a := a) hx
      have hlen := take_filter_len a n (k + 1)
      have HST := Lib.hid hstep
      have HLN := Lib.hid hlen
      have HO := Lib.hid hown
      clear hx hown hstep hlen
      cases hh : has a x
      · have HH := Lib.hid hh
        clear hh
        go_wp2_with (go_at_call 59; refine (l1Has_any _ _ _ _ _ (Mem.below (by assumption) (by (repeat (first | exact Below.refl _ _ | assumption | (refine Below.alloc ?_ (by first | omega | (simp; done) | (simp; omega)) _) | (refine Below.setCell ?_ (by first | omega | (simp; done) | (simp; omega)) _) | (refine Below.drew ?_) | (refine Below.drewN ?_ _) | (refine Below.next (by assumption) ?_ (by first | omega | (simp; done) | (simp; omega))))))) (by assumption)).mono ?_; rintro e w' ⟨he, rfl⟩; (first | rw [HH.out] at he | rw [HG.out] at he); subst he)
        go_roundw
        case rel =>
          have e3 := HST.out
          rw [HH.out, if_neg (by simp)] at e3
          exact ⟨k + 1, j, by omega, hj, by go_num, by rw [e3]; exact HO.out, Lib.hid (by rw [e3]; exact HJ.out), hb⟩
        case measure => simp [intOf]; omega
      · have HH := Lib.hid hh
        clear hh
        go_wp2_with (first | (go_at_call 59; refine (l1Has_any _ _ _ _ _ (Mem.below (by assumption) (by (repeat (first | exact Below.refl _ _ | assumption | (refine Below.alloc ?_ (by first | omega | (simp; done) | (simp; omega)) _) | (refine Below.setCell ?_ (by first | omega | (simp; done) | (simp; omega)) _) | (refine Below.drew ?_) | (refine Below.drewN ?_ _) | (refine Below.next (by assumption) ?_ (by first | omega | (simp; done) | (simp; omega))))))) (by assumption)).mono ?_; rintro e w' ⟨he, rfl⟩; (first | rw [HH.out] at he | rw [HG.out] at he); subst he) | (at_builtin; refine wpList_append_one _ rfl (.tmp 17) (.tmp 19) 23 rfl w.heap.size 3 i0 (.int .i64 0) 1 8 Try.underlying23 hi hz0 hz1 hz2 rfl (by omega) _ _ _ rfl HO.out _ _ _ rfl rfl rfl (by omega) (by omega) (by omega) ?_; intro v' w2 hown' hb2))
        go_roundw
        case rel =>
          have e3 := HST.out
          rw [HH.out, if_pos rfl] at e3
          have e4 := HLN.out
          rw [e3] at e4
          have e5 := HJ.out
          simp at e4
          exact ⟨k + 1, j + 1, by omega, by omega, by go_num, by rw [e3, ints_snoc]; exact hown', Lib.hid (by rw [e3, List.length_append, e5]; rfl), hb.trans hb2⟩
        case measure => simp [intOf]; omega
    · go_wp2
      go_ret
      rw [opens_all (by omega)] at hown HJ
      exact RetRow.mk hown HJ.out (Nat.le_refl _) hb

set_option maxHeartbeats 800000 in
set_option maxRecDepth 100000 in
theorem openSpots_any (B : Option Addr) (d : Nat) (a : List Int) (C : Option Addr) (f : Nat) (n : List Int) (w : World) (ha : Mem w B (ints a)) (hn : Mem w C (ints n)) (hl2 : a.length ≤ 1048576) (hl3 : n.length ≤ 1048576) : Calls Try.prog 51 #[.slice B a.length d, .slice C n.length f] w (RetRow w (opens a n)) := by
  obtain ⟨i0, hi, hz0, hz1, hz2⟩ := info_parts info_int
  go_enter Try.func51, Try.ntmps51
  go_wp2
  go_loopw [5, 7, 11] (fun v _ i wr => ∃ k j : Nat, k ≤ n.length ∧ j ≤ n.length ∧ i = .int .i64 k ∧ wr.ownsRow w.heap.size 3 1 v j (ints ((n.take k).filter (has a))) ∧ Hid (j = ((n.take k).filter (has a)).length) ∧ Below w.heap.size w wr) (fun _ _ i _ => n.length - (intOf i).toNat)
  case atStart => exact ⟨0, 0, by omega, by omega, rfl, own_empty _ _ (by simp) (by omega) rfl, Lib.hid rfl, by (repeat (first | exact Below.refl _ _ | assumption | (refine Below.alloc ?_ (by first | omega | (simp; done) | (simp; omega)) _) | (refine Below.setCell ?_ (by first | omega | (simp; done) | (simp; omega)) _) | (refine Below.drew ?_) | (refine Below.drewN ?_ _) | (refine Below.next (by assumption) ?_ (by first | omega | (simp; done) | (simp; omega)))))⟩
  case round =>
    obtain ⟨k, j, hk, hj, rfl, hown, HJ, hb⟩ := hrel
    have hsz := hb.size
    by_cases hlt : k < n.length
    · obtain ⟨x, hx⟩ := some_of_lt hlt
      obtain ⟨b, off, rfl, h1⟩ := (hn.below hb).int hx
      have hstep := opens_step (a := a) hx
      have hlen := take_filter_len a n (k + 1)
      have HST := Lib.hid hstep
      have HLN := Lib.hid hlen
      have HO := Lib.hid hown
      clear hx hown hstep hlen
      cases hh : has a x
      · have HH := Lib.hid hh
        clear hh
        go_wp2_with (go_at_call 56; refine (containsI_any _ _ _ _ _ (Mem.below (by assumption) (by (repeat (first | exact Below.refl _ _ | assumption | (refine Below.alloc ?_ (by first | omega | (simp; done) | (simp; omega)) _) | (refine Below.setCell ?_ (by first | omega | (simp; done) | (simp; omega)) _) | (refine Below.drew ?_) | (refine Below.drewN ?_ _) | (refine Below.next (by assumption) ?_ (by first | omega | (simp; done) | (simp; omega))))))) (by assumption)).mono ?_; rintro e w' ⟨he, rfl⟩; (first | rw [HH.out] at he | rw [HG.out] at he); subst he)
        go_roundw
        case rel =>
          have e3 := HST.out
          rw [HH.out, if_neg (by simp)] at e3
          exact ⟨k + 1, j, by omega, hj, by go_num, by rw [e3]; exact HO.out, Lib.hid (by rw [e3]; exact HJ.out), hb⟩
        case measure => simp [intOf]; omega
      · have HH := Lib.hid hh
        clear hh
        go_wp2_with (first | (go_at_call 56; refine (containsI_any _ _ _ _ _ (Mem.below (by assumption) (by (repeat (first | exact Below.refl _ _ | assumption | (refine Below.alloc ?_ (by first | omega | (simp; done) | (simp; omega)) _) | (refine Below.setCell ?_ (by first | omega | (simp; done) | (simp; omega)) _) | (refine Below.drew ?_) | (refine Below.drewN ?_ _) | (refine Below.next (by assumption) ?_ (by first | omega | (simp; done) | (simp; omega))))))) (by assumption)).mono ?_; rintro e w' ⟨he, rfl⟩; (first | rw [HH.out] at he | rw [HG.out] at he); subst he) | (at_builtin; refine wpList_append_one _ rfl (.tmp 18) (.tmp 20) 23 rfl w.heap.size 3 i0 (.int .i64 0) 1 8 Try.underlying23 hi hz0 hz1 hz2 rfl (by omega) _ _ _ rfl HO.out _ _ _ rfl rfl rfl (by omega) (by omega) (by omega) ?_; intro v' w2 hown' hb2))
        go_roundw
        case rel =>
          have e3 := HST.out
          rw [HH.out, if_pos rfl] at e3
          have e4 := HLN.out
          rw [e3] at e4
          have e5 := HJ.out
          simp at e4
          exact ⟨k + 1, j + 1, by omega, by omega, by go_num, by rw [e3, ints_snoc]; exact hown', Lib.hid (by rw [e3, List.length_append, e5]; rfl), hb.trans hb2⟩
        case measure => simp [intOf]; omega
    · go_wp2
      go_ret
      rw [opens_all (by omega)] at hown HJ
      exact RetRow.mk hown HJ.out (Nat.le_refl _) hb

set_option maxHeartbeats 1600000 in
set_option maxRecDepth 100000 in
theorem abSpare_any (A : Option Addr) (c : Nat) (L : List Sp) (B : Option Addr) (d : Nat) (a : List Int) (C : Option Addr) (f : Nat) (n : List Int) (w : World) (ha : Mem w B (ints a)) (hn : Mem w C (ints n)) (hl : L.length ≤ 1048576) (hl2 : a.length ≤ 1048576) (hl3 : n.length ≤ 1048576) : Calls Try.prog 63 #[.slice A L.length c, .slice B a.length d, .slice C n.length f] w (RetRow w (spares L.length a n)) := by
  obtain ⟨i0, hi, hz0, hz1, hz2⟩ := info_parts info_int
  go_enter Try.func63, Try.ntmps63
  go_wp2
  go_loopw [7, 8, 11] (fun v _ i wr => ∃ k j : Nat, k ≤ L.length ∧ j ≤ L.length ∧ i = .int .i64 k ∧ wr.ownsRow w.heap.size 3 1 v j (ints (spares k a n)) ∧ Hid (j = (spares k a n).length) ∧ Below w.heap.size w wr) (fun _ _ i _ => L.length - (intOf i).toNat)
  case atStart => exact ⟨0, 0, by omega, by omega, rfl, World.ownsRow_nil _ _ _ _, Lib.hid rfl, by (repeat (first | exact Below.refl _ _ | assumption | (refine Below.alloc ?_ (by first | omega | (simp; done) | (simp; omega)) _) | (refine Below.setCell ?_ (by first | omega | (simp; done) | (simp; omega)) _) | (refine Below.drew ?_) | (refine Below.drewN ?_ _) | (refine Below.next (by assumption) ?_ (by first | omega | (simp; done) | (simp; omega)))))⟩
  case round =>
    obtain ⟨k, j, hk, hj, rfl, hown, HJ, hb⟩ := hrel
    have hsz := hb.size
    by_cases hlt : k < L.length
    · have HST := Lib.hid (spares_succ k a n)
      have HLN := Lib.hid (spares_len (k + 1) a n)
      have HO := Lib.hid hown
      clear hown
      cases hh : has a (k : Int)
      · have HH := Lib.hid hh
        clear hh
        cases hg : has n (k : Int)
        · have HG := Lib.hid hg
          clear hg
          go_wp2_with (first | (go_at_call 59; refine (l1Has_any _ _ _ _ _ (Mem.below (by assumption) (by (repeat (first | exact Below.refl _ _ | assumption | (refine Below.alloc ?_ (by first | omega | (simp; done) | (simp; omega)) _) | (refine Below.setCell ?_ (by first | omega | (simp; done) | (simp; omega)) _) | (refine Below.drew ?_) | (refine Below.drewN ?_ _) | (refine Below.next (by assumption) ?_ (by first | omega | (simp; done) | (simp; omega))))))) (by assumption)).mono ?_; rintro e w' ⟨he, rfl⟩; (first | rw [HH.out] at he | rw [HG.out] at he); subst he) | (at_builtin; refine wpList_append_one _ rfl (.tmp 24) (.tmp 26) 23 rfl w.heap.size 3 i0 (.int .i64 0) 1 8 Try.underlying23 hi hz0 hz1 hz2 rfl (by omega) _ _ _ rfl HO.out _ _ _ rfl rfl rfl (by omega) (by omega) (by omega) ?_; intro v' w2 hown' hb2))
          go_roundw
          case rel =>
            have e3 := HST.out
            rw [HH.out, HG.out, if_pos (by simp)] at e3
            have e4 := HLN.out
            rw [e3] at e4
            have e5 := HJ.out
            simp at e4
            exact ⟨k + 1, j + 1, by omega, by omega, by go_num, by rw [e3, ints_snoc]; exact hown', Lib.hid (by rw [e3, List.length_append, e5]; rfl), hb.trans hb2⟩
          case measure => simp [intOf]; omega
        · have HG := Lib.hid hg
          clear hg
          go_wp2_with (go_at_call 59; refine (l1Has_any _ _ _ _ _ (Mem.below (by assumption) (by (repeat (first | exact Below.refl _ _ | assumption | (refine Below.alloc ?_ (by first | omega | (simp; done) | (simp; omega)) _) | (refine Below.setCell ?_ (by first | omega | (simp; done) | (simp; omega)) _) | (refine Below.drew ?_) | (refine Below.drewN ?_ _) | (refine Below.next (by assumption) ?_ (by first | omega | (simp; done) | (simp; omega))))))) (by assumption)).mono ?_; rintro e w' ⟨he, rfl⟩; (first | rw [HH.out] at he | rw [HG.out] at he); subst he)
          go_roundw
          case rel =>
            have e3 := HST.out
            rw [HH.out, HG.out, if_neg (by simp)] at e3
            exact ⟨k + 1, j, by omega, hj, by go_num, by rw [e3]; exact HO.out, Lib.hid (by rw [e3]; exact HJ.out), hb⟩
          case measure => simp [intOf]; omega
      · have HH := Lib.hid hh
        clear hh
        go_wp2_with (go_at_call 59; refine (l1Has_any _ _ _ _ _ (Mem.below (by assumption) (by (repeat (first | exact Below.refl _ _ | assumption | (refine Below.alloc ?_ (by first | omega | (simp; done) | (simp; omega)) _) | (refine Below.setCell ?_ (by first | omega | (simp; done) | (simp; omega)) _) | (refine Below.drew ?_) | (refine Below.drewN ?_ _) | (refine Below.next (by assumption) ?_ (by first | omega | (simp; done) | (simp; omega))))))) (by assumption)).mono ?_; rintro e w' ⟨he, rfl⟩; (first | rw [HH.out] at he | rw [HG.out] at he); subst he)
        go_roundw
        case rel =>
          have e3 := HST.out
          rw [HH.out, if_neg (by simp)] at e3
          exact ⟨k + 1, j, by omega, hj, by go_num, by rw [e3]; exact HO.out, Lib.hid (by rw [e3]; exact HJ.out), hb⟩
        case measure => simp [intOf]; omega
    · go_wp2
      go_ret
      have e1 : k = L.length := by omega
      subst e1
      exact RetRow.mk hown HJ.out (Nat.le_refl _) hb

set_option maxHeartbeats 1600000 in
set_option maxRecDepth 100000 in
theorem sparePerformers_any (m : Nat) (B : Option Addr) (d : Nat) (a : List Int) (C : Option Addr) (f : Nat) (n : List Int) (w : World) (ha : Mem w B (ints a)) (hn : Mem w C (ints n)) (hl : m ≤ 1048576) (hl2 : a.length ≤ 1048576) (hl3 : n.length ≤ 1048576) : Calls Try.prog 61 #[.int .i64 m, .slice B a.length d, .slice C n.length f] w (RetRow w (spares m a n)) := by
  obtain ⟨i0, hi, hz0, hz1, hz2⟩ := info_parts info_int
  go_enter Try.func61, Try.ntmps61
  go_wp2
  go_loopw [7, 8, 11] (fun v _ i wr => ∃ k j : Nat, k ≤ m ∧ j ≤ m ∧ i = .int .i64 k ∧ wr.ownsRow w.heap.size 3 1 v j (ints (spares k a n)) ∧ Hid (j = (spares k a n).length) ∧ Below w.heap.size w wr) (fun _ _ i _ => m - (intOf i).toNat)
  case atStart => exact ⟨0, 0, by omega, by omega, rfl, own_empty _ _ (by simp) (by omega) rfl, Lib.hid rfl, by (repeat (first | exact Below.refl _ _ | assumption | (refine Below.alloc ?_ (by first | omega | (simp; done) | (simp; omega)) _) | (refine Below.setCell ?_ (by first | omega | (simp; done) | (simp; omega)) _) | (refine Below.drew ?_) | (refine Below.drewN ?_ _) | (refine Below.next (by assumption) ?_ (by first | omega | (simp; done) | (simp; omega)))))⟩
  case round =>
    obtain ⟨k, j, hk, hj, rfl, hown, HJ, hb⟩ := hrel
    have hsz := hb.size
    by_cases hlt : k < m
    · have HST := Lib.hid (spares_succ k a n)
      have HLN := Lib.hid (spares_len (k + 1) a n)
      have HO := Lib.hid hown
      clear hown
      cases hh : has a (k : Int)
      · have HH := Lib.hid hh
        clear hh
        cases hg : has n (k : Int)
        · have HG := Lib.hid hg
          clear hg
          go_wp2_with (first | (go_at_call 56; refine (containsI_any _ _ _ _ _ (Mem.below (by assumption) (by (repeat (first | exact Below.refl _ _ | assumption | (refine Below.alloc ?_ (by first | omega | (simp; done) | (simp; omega)) _) | (refine Below.setCell ?_ (by first | omega | (simp; done) | (simp; omega)) _) | (refine Below.drew ?_) | (refine Below.drewN ?_ _) | (refine Below.next (by assumption) ?_ (by first | omega | (simp; done) | (simp; omega))))))) (by assumption)).mono ?_; rintro e w' ⟨he, rfl⟩; (first | rw [HH.out] at he | rw [HG.out] at he); subst he) | (at_builtin; refine wpList_append_one _ rfl (.tmp 24) (.tmp 26) 23 rfl w.heap.size 3 i0 (.int .i64 0) 1 8 Try.underlying23 hi hz0 hz1 hz2 rfl (by omega) _ _ _ rfl HO.out _ _ _ rfl rfl rfl (by omega) (by omega) (by omega) ?_; intro v' w2 hown' hb2))
          go_roundw
          case rel =>
            have e3 := HST.out
            rw [HH.out, HG.out, if_pos (by simp)] at e3
            have e4 := HLN.out
            rw [e3] at e4
            have e5 := HJ.out
            simp at e4
            exact ⟨k + 1, j + 1, by omega, by omega, by go_num, by rw [e3, ints_snoc]; exact hown', Lib.hid (by rw [e3, List.length_append, e5]; rfl), hb.trans hb2⟩
          case measure => simp [intOf]; omega
        · have HG := Lib.hid hg
          clear hg
          go_wp2_with (go_at_call 56; refine (containsI_any _ _ _ _ _ (Mem.below (by assumption) (by (repeat (first | exact Below.refl _ _ | assumption | (refine Below.alloc ?_ (by first | omega | (simp; done) | (simp; omega)) _) | (refine Below.setCell ?_ (by first | omega | (simp; done) | (simp; omega)) _) | (refine Below.drew ?_) | (refine Below.drewN ?_ _) | (refine Below.next (by assumption) ?_ (by first | omega | (simp; done) | (simp; omega))))))) (by assumption)).mono ?_; rintro e w' ⟨he, rfl⟩; (first | rw [HH.out] at he | rw [HG.out] at he); subst he)
          go_roundw
          case rel =>
            have e3 := HST.out
            rw [HH.out, HG.out, if_neg (by simp)] at e3
            exact ⟨k + 1, j, by omega, hj, by go_num, by rw [e3]; exact HO.out, Lib.hid (by rw [e3]; exact HJ.out), hb⟩
          case measure => simp [intOf]; omega
      · have HH := Lib.hid hh
        clear hh
        go_wp2_with (go_at_call 56; refine (containsI_any _ _ _ _ _ (Mem.below (by assumption) (by (repeat (first | exact Below.refl _ _ | assumption | (refine Below.alloc ?_ (by first | omega | (simp; done) | (simp; omega)) _) | (refine Below.setCell ?_ (by first | omega | (simp; done) | (simp; omega)) _) | (refine Below.drew ?_) | (refine Below.drewN ?_ _) | (refine Below.next (by assumption) ?_ (by first | omega | (simp; done) | (simp; omega))))))) (by assumption)).mono ?_; rintro e w' ⟨he, rfl⟩; (first | rw [HH.out] at he | rw [HG.out] at he); subst he)
        go_roundw
        case rel =>
          have e3 := HST.out
          rw [HH.out, if_neg (by simp)] at e3
          exact ⟨k + 1, j, by omega, hj, by go_num, by rw [e3]; exact HO.out, Lib.hid (by rw [e3]; exact HJ.out), hb⟩
        case measure => simp [intOf]; omega
    · go_wp2
      go_ret
      have e1 : k = m := by omega
      subst e1
      exact RetRow.mk hown HJ.out (Nat.le_refl _) hb

theorem containsIK_any (A : Option Addr) (c : Nat) (L : List Int) (k : Nat) (hk : k ≤ L.length) (x : Int) (w : World) (hm : Mem w A (ints L)) (hl : L.length ≤ 1048576) : Calls Try.prog 56 #[.slice A k c, .int .i64 x] w fun e w' => e = .returned (.bool (has (L.take k) x)) ∧ w = w' := by
  have e : (L.take k).length = k := by simp; omega
  have h := containsI_any A c (L.take k) x w (hm.take k) (by omega)
  rw [e] at h
  exact h
theorem l1HasK_any (A : Option Addr) (c : Nat) (L : List Int) (k : Nat) (hk : k ≤ L.length) (x : Int) (w : World) (hm : Mem w A (ints L)) (hl : L.length ≤ 1048576) : Calls Try.prog 59 #[.slice A k c, .int .i64 x] w fun e w' => e = .returned (.bool (has (L.take k) x)) ∧ w = w' := by
  have e : (L.take k).length = k := by simp; omega
  have h := l1Has_any A c (L.take k) x w (hm.take k) (by omega)
  rw [e] at h
  exact h

set_option maxHeartbeats 1600000 in
set_option maxRecDepth 100000 in
theorem abCover_any (A : Option Addr) (c : Nat) (L : List Sp) (B : Option Addr) (d : Nat) (a : List Int) (C : Option Addr) (f : Nat) (n : List Int) (D : Option Addr) (g : Nat) (mv : List Int) (w : World) (ha : Mem w B (ints a)) (hn : Mem w C (ints n)) (hv : Mem w D (ints mv)) (hl : L.length ≤ 1048576) (hl2 : a.length ≤ 1048576) (hl3 : n.length ≤ 1048576) (hl4 : mv.length ≤ 1048576) (hvc : mv.length ≤ g) : Calls Try.prog 53 #[.slice A L.length c, .slice B a.length d, .slice C n.length f, .slice D mv.length g] w fun e w' => e = .returned (.bool (covOk L.length a n mv)) ∧ Below w.heap.size w w' := by
  have e0 : Hid (covTo (spares L.length a n) mv mv.length = false → covOk L.length a n mv = false) := Lib.hid (fun h => by simp [covOk, h])
  have e1 : Hid (covTo (spares L.length a n) mv mv.length = true → covOk L.length a n mv = decide (mv.length = (opens a n).length)) := Lib.hid (fun h => by simp [covOk, h])
  have hsl := spares_len L.length a n
  have hol := opens_len a n
  go_enter Try.func53, Try.ntmps53
  go_wp2_with fail
  refine (abSpare_any _ _ L _ _ a _ _ n _ (ha.below (by (repeat (first | exact Below.refl _ _ | assumption | (refine Below.alloc ?_ (by first | omega | (simp; done) | (simp; omega)) _) | (refine Below.setCell ?_ (by first | omega | (simp; done) | (simp; omega)) _) | (refine Below.drew ?_) | (refine Below.drewN ?_ _) | (refine Below.next (by assumption) ?_ (by first | omega | (simp; done) | (simp; omega))))))) (hn.below (by (repeat (first | exact Below.refl _ _ | assumption | (refine Below.alloc ?_ (by first | omega | (simp; done) | (simp; omega)) _) | (refine Below.setCell ?_ (by first | omega | (simp; done) | (simp; omega)) _) | (refine Below.drew ?_) | (refine Below.drewN ?_ _) | (refine Below.next (by assumption) ?_ (by first | omega | (simp; done) | (simp; omega))))))) hl hl2 hl3).mono ?_
  rintro e w1 ⟨A1, c1, rfl, ho, hq⟩
  have hB := Lib.hid hq
  have hz := hq.size
  have HO := Lib.hid ho
  clear ho hq
  go_wp2
  go_loop [10, 11, 18] (fun _ _ i => ∃ k : Nat, k ≤ mv.length ∧ i = .int .i64 k ∧ Hid (covTo (spares L.length a n) mv k = true)) (fun _ _ i => mv.length - (intOf i).toNat)
  case atStart => exact ⟨0, by omega, rfl, Lib.hid rfl⟩
  case round =>
    obtain ⟨k, hk, rfl, H⟩ := hrel
    by_cases hlt : k < mv.length
    · obtain ⟨x, hx⟩ := some_of_lt hlt
      obtain ⟨b, off, rfl, h1⟩ := (hv.below hB.out).int hx
      have HX := Lib.hid hx
      clear hx
      have hk0 : (0 : Int) ≤ (k : Int) := by omega
      have hkc : (k : Int) ≤ (g : Int) := by omega
      cases hh : has (spares L.length a n) x
      · have HH := Lib.hid hh
        clear hh
        go_wp2_with fail
        refine (l1Has_any _ _ (spares L.length a n) x _ (Mem.of_own HO.out) (by omega)).mono ?_
        rintro e w' ⟨he, rfl⟩
        rw [HH.out] at he
        subst he
        go_wp2_with fail
        go_ret
        exact ⟨ret_bool (by rw [e0.out (covTo_no HX.out (.inl HH.out))]), hB.out⟩
      · have HH := Lib.hid hh
        clear hh
        cases hg : has (mv.take k) x
        all_goals
          have HG := Lib.hid hg
          clear hg
          go_wp2_with fail
          refine (l1Has_any _ _ (spares L.length a n) x _ (Mem.of_own HO.out) (by omega)).mono ?_
          rintro e w' ⟨he, rfl⟩
          rw [HH.out] at he
          subst he
          go_wp2_with fail
          refine (l1HasK_any _ _ mv k hk x _ (hv.below hB.out) hl4).mono ?_
          rintro e w' ⟨he, rfl⟩
          rw [HG.out] at he
          subst he
          go_wp2_with fail
        · go_round
          case rel => exact ⟨k + 1, by omega, by go_num, Lib.hid (covTo_yes H.out HX.out HH.out HG.out)⟩
          case measure => simp [intOf]; omega
        · go_ret
          exact ⟨ret_bool (by rw [e0.out (covTo_no HX.out (.inr HG.out))]), hB.out⟩
    · have e2 : k = mv.length := by omega
      subst e2
      have e3 := Lib.hid (e1.out H.out)
      have HB := hB.out
      go_wp2_with fail
      refine (abOpen_any _ _ a _ _ n _ (ha.below (by (repeat (first | exact Below.refl _ _ | assumption | (refine Below.alloc ?_ (by first | omega | (simp; done) | (simp; omega)) _) | (refine Below.setCell ?_ (by first | omega | (simp; done) | (simp; omega)) _) | (refine Below.drew ?_) | (refine Below.drewN ?_ _) | (refine Below.next (by assumption) ?_ (by first | omega | (simp; done) | (simp; omega))))))) (hn.below (by (repeat (first | exact Below.refl _ _ | assumption | (refine Below.alloc ?_ (by first | omega | (simp; done) | (simp; omega)) _) | (refine Below.setCell ?_ (by first | omega | (simp; done) | (simp; omega)) _) | (refine Below.drew ?_) | (refine Below.drewN ?_ _) | (refine Below.next (by assumption) ?_ (by first | omega | (simp; done) | (simp; omega))))))) hl2 hl3).mono ?_
      rintro e w2 ⟨A2, c2, rfl, ho2, hq2⟩
      go_wp2_with fail
      go_ret
      exact ⟨ret_bool (by rw [e3.out]; first | rfl | (rw [decide_eq_decide]; omega) | (rw [Bool.eq_iff_iff]; simp; omega)), by (repeat (first | exact Below.refl _ _ | assumption | (refine Below.alloc ?_ (by first | omega | (simp; done) | (simp; omega)) _) | (refine Below.setCell ?_ (by first | omega | (simp; done) | (simp; omega)) _) | (refine Below.drew ?_) | (refine Below.drewN ?_ _) | (refine Below.next (by assumption) ?_ (by first | omega | (simp; done) | (simp; omega)))))⟩

set_option maxHeartbeats 1600000 in
set_option maxRecDepth 100000 in
theorem isCover_any (m : Nat) (B : Option Addr) (d : Nat) (a : List Int) (C : Option Addr) (f : Nat) (n : List Int) (D : Option Addr) (g : Nat) (mv : List Int) (w : World) (ha : Mem w B (ints a)) (hn : Mem w C (ints n)) (hv : Mem w D (ints mv)) (hl : m ≤ 1048576) (hl2 : a.length ≤ 1048576) (hl3 : n.length ≤ 1048576) (hl4 : mv.length ≤ 1048576) (hvc : mv.length ≤ g) : Calls Try.prog 50 #[.int .i64 m, .slice B a.length d, .slice C n.length f, .slice D mv.length g] w fun e w' => e = .returned (.bool (covOk m a n mv)) ∧ Below w.heap.size w w' := by
  have e0 : Hid (covTo (spares m a n) mv mv.length = false → covOk m a n mv = false) := Lib.hid (fun h => by simp [covOk, h])
  have e1 : Hid (covTo (spares m a n) mv mv.length = true → covOk m a n mv = decide (mv.length = (opens a n).length)) := Lib.hid (fun h => by simp [covOk, h])
  have hsl := spares_len m a n
  have hol := opens_len a n
  go_enter Try.func50, Try.ntmps50
  go_wp2_with fail
  refine (sparePerformers_any m _ _ a _ _ n _ (ha.below (by (repeat (first | exact Below.refl _ _ | assumption | (refine Below.alloc ?_ (by first | omega | (simp; done) | (simp; omega)) _) | (refine Below.setCell ?_ (by first | omega | (simp; done) | (simp; omega)) _) | (refine Below.drew ?_) | (refine Below.drewN ?_ _) | (refine Below.next (by assumption) ?_ (by first | omega | (simp; done) | (simp; omega))))))) (hn.below (by (repeat (first | exact Below.refl _ _ | assumption | (refine Below.alloc ?_ (by first | omega | (simp; done) | (simp; omega)) _) | (refine Below.setCell ?_ (by first | omega | (simp; done) | (simp; omega)) _) | (refine Below.drew ?_) | (refine Below.drewN ?_ _) | (refine Below.next (by assumption) ?_ (by first | omega | (simp; done) | (simp; omega))))))) hl hl2 hl3).mono ?_
  rintro e w1 ⟨A1, c1, rfl, ho, hq⟩
  have hB := Lib.hid hq
  have hz := hq.size
  have HO := Lib.hid ho
  clear ho hq
  go_wp2
  go_loop [10, 11, 18] (fun _ _ i => ∃ k : Nat, k ≤ mv.length ∧ i = .int .i64 k ∧ Hid (covTo (spares m a n) mv k = true)) (fun _ _ i => mv.length - (intOf i).toNat)
  case atStart => exact ⟨0, by omega, rfl, Lib.hid rfl⟩
  case round =>
    obtain ⟨k, hk, rfl, H⟩ := hrel
    by_cases hlt : k < mv.length
    · obtain ⟨x, hx⟩ := some_of_lt hlt
      obtain ⟨b, off, rfl, h1⟩ := (hv.below hB.out).int hx
      have HX := Lib.hid hx
      clear hx
      have hk0 : (0 : Int) ≤ (k : Int) := by omega
      have hkc : (k : Int) ≤ (g : Int) := by omega
      cases hh : has (spares m a n) x
      · have HH := Lib.hid hh
        clear hh
        go_wp2_with fail
        refine (containsI_any _ _ (spares m a n) x _ (Mem.of_own HO.out) (by omega)).mono ?_
        rintro e w' ⟨he, rfl⟩
        rw [HH.out] at he
        subst he
        go_wp2_with fail
        go_ret
        exact ⟨ret_bool (by rw [e0.out (covTo_no HX.out (.inl HH.out))]), hB.out⟩
      · have HH := Lib.hid hh
        clear hh
        cases hg : has (mv.take k) x
        all_goals
          have HG := Lib.hid hg
          clear hg
          go_wp2_with fail
          refine (containsI_any _ _ (spares m a n) x _ (Mem.of_own HO.out) (by omega)).mono ?_
          rintro e w' ⟨he, rfl⟩
          rw [HH.out] at he
          subst he
          go_wp2_with fail
          refine (containsIK_any _ _ mv k hk x _ (hv.below hB.out) hl4).mono ?_
          rintro e w' ⟨he, rfl⟩
          rw [HG.out] at he
          subst he
          go_wp2_with fail
        · go_round
          case rel => exact ⟨k + 1, by omega, by go_num, Lib.hid (covTo_yes H.out HX.out HH.out HG.out)⟩
          case measure => simp [intOf]; omega
        · go_ret
          exact ⟨ret_bool (by rw [e0.out (covTo_no HX.out (.inr HG.out))]), hB.out⟩
    · have e2 : k = mv.length := by omega
      subst e2
      have e3 := Lib.hid (e1.out H.out)
      have HB := hB.out
      go_wp2_with fail
      refine (openSpots_any _ _ a _ _ n _ (ha.below (by (repeat (first | exact Below.refl _ _ | assumption | (refine Below.alloc ?_ (by first | omega | (simp; done) | (simp; omega)) _) | (refine Below.setCell ?_ (by first | omega | (simp; done) | (simp; omega)) _) | (refine Below.drew ?_) | (refine Below.drewN ?_ _) | (refine Below.next (by assumption) ?_ (by first | omega | (simp; done) | (simp; omega))))))) (hn.below (by (repeat (first | exact Below.refl _ _ | assumption | (refine Below.alloc ?_ (by first | omega | (simp; done) | (simp; omega)) _) | (refine Below.setCell ?_ (by first | omega | (simp; done) | (simp; omega)) _) | (refine Below.drew ?_) | (refine Below.drewN ?_ _) | (refine Below.next (by assumption) ?_ (by first | omega | (simp; done) | (simp; omega))))))) hl2 hl3).mono ?_
      rintro e w2 ⟨A2, c2, rfl, ho2, hq2⟩
      go_wp2_with fail
      go_ret
      exact ⟨ret_bool (by rw [e3.out]; first | rfl | (rw [decide_eq_decide]; omega) | (rw [Bool.eq_iff_iff]; simp; omega)), by (repeat (first | exact Below.refl _ _ | assumption | (refine Below.alloc ?_ (by first | omega | (simp; done) | (simp; omega)) _) | (refine Below.setCell ?_ (by first | omega | (simp; done) | (simp; omega)) _) | (refine Below.drew ?_) | (refine Below.drewN ?_ _) | (refine Below.next (by assumption) ?_ (by first | omega | (simp; done) | (simp; omega)))))⟩

end Go.Proofs.Ythppancpecjegaa
