/-
  Contracts: lists of sources, their times at a spot, least and greatest.
-/
import Derived.Test.YtdipmjflgjlfeaaPlain2
import Derived.Test.YtdipmjflgjlfeaaReach
import Derived.Test.YtdipmjflgjlfeaaLst
import Derived.Test.YtdipmjflgjlfeaaCpy
import Derived.Lib.QuietBelow
namespace Go.Proofs.Ytdipmjflgjlfeaa
open Go.RowKit Go.Sort

set_option maxRecDepth 100000 in
theorem snList_any (A : Option Addr) (c : Nat) (L : List Sp) (w : World) (hm : Mem w A (spots L)) (hl : L.length ≤ 1048576) : Calls Try.prog 83 #[.slice A L.length c] w fun e w' => e = .returned (.bool (srcOk L)) ∧ Below w.heap.size w w' := by
  cases h : (L.all isSp && decide (L.length ≤ 40))
  all_goals
    have e : Hid (srcOk L = ((L.all isSp && decide (L.length ≤ 40)) && decide (0 < L.length))) := Lib.hid rfl
    go_enter Try.func83, Try.ntmps83
    go_wp2_with (go_at_call 115; refine (stList_any _ _ L _ hm hl).mono ?_; rintro e w' ⟨rfl, hq⟩; obtain ⟨hz, hc, hf⟩ := bel hq; (try simp at hz); (try have gz1 : w.heap.size < w'.heap.size := by omega); (try have gz2 : w.heap.size + 1 < w'.heap.size := by omega); (try have gz3 : wr.heap.size < w'.heap.size := by omega))
    go_ret
    exact ⟨ret_bool (by rw [e.out, h]; simp), by (repeat (first | exact Below.refl _ _ | assumption | (refine Below.alloc ?_ (by first | omega | (simp; done) | (simp; omega)) _) | (refine Below.setCell ?_ (by first | omega | (simp; done) | (simp; omega)) _) | (refine Below.drew ?_) | (refine Below.drewN ?_ _) | (refine Below.next (by assumption) ?_ (by first | omega | (simp; done) | (simp; omega)))))⟩

set_option maxRecDepth 100000 in
theorem areSources_any (A : Option Addr) (c : Nat) (L : List Sp) (w : World) (hm : Mem w A (spots L)) (hl : L.length ≤ 1048576) : Calls Try.prog 80 #[.slice A L.length c] w fun e w' => e = .returned (.bool (srcOk L)) ∧ Below w.heap.size w w' := by
  cases h : (L.all isSp && decide (L.length ≤ 40))
  all_goals
    have e : Hid (srcOk L = ((L.all isSp && decide (L.length ≤ 40)) && decide (0 < L.length))) := Lib.hid rfl
    go_enter Try.func80, Try.ntmps80
    go_wp2_with (go_at_call 114; refine (areSpots_any _ _ L _ hm hl).mono ?_; rintro e w' ⟨rfl, hq⟩; obtain ⟨hz, hc, hf⟩ := bel hq; (try simp at hz); (try have gz1 : w.heap.size < w'.heap.size := by omega); (try have gz2 : w.heap.size + 1 < w'.heap.size := by omega); (try have gz3 : wr.heap.size < w'.heap.size := by omega))
    go_ret
    exact ⟨ret_bool (by rw [e.out, h]; simp), by (repeat (first | exact Below.refl _ _ | assumption | (refine Below.alloc ?_ (by first | omega | (simp; done) | (simp; omega)) _) | (refine Below.setCell ?_ (by first | omega | (simp; done) | (simp; omega)) _) | (refine Below.drew ?_) | (refine Below.drewN ?_ _) | (refine Below.next (by assumption) ?_ (by first | omega | (simp; done) | (simp; omega)))))⟩

set_option maxRecDepth 100000 in
theorem timesAt_any (A : Option Addr) (c : Nat) (L : List Sp) (a : Sp) (w : World) (hm : Mem w A (spots L)) (hl : L.length ≤ 40) (hL : L.all isSp = true) (ha : isSp a = true) : Calls Try.prog 82 #[.slice A L.length c, .agg #[.int .i64 a.x, .int .i64 a.y]] w fun e w' =>
    ∃ A' c', e = .returned (.slice A' L.length c') ∧ w'.ownsRow w.heap.size 3 1 (.slice A' L.length c') L.length (ints (times L a)) ∧ Below w.heap.size w w' := by
  obtain ⟨i0, hi, hz0, hz1, hz2⟩ := info_parts info_int
  have HL := Lib.hid hL
  have HA := Lib.hid ha
  clear hL ha
  go_enter Try.func82, Try.ntmps82
  go_wp2
  go_loopw [5, 7, 11] (fun v _ i wr => ∃ k : Nat, k ≤ L.length ∧ i = .int .i64 k ∧ wr.ownsRow (w.heap.size + 1) 3 1 v k (ints ((times L a).take k)) ∧ Below (w.heap.size + 1) (w.alloc (.cells #[.int .i64 a.x, .int .i64 a.y] 25)) wr) (fun _ _ i _ => L.length - (intOf i).toNat)
  case atStart => exact ⟨0, by omega, rfl, own_empty _ _ (by simp) (by omega) (by simp [ints]), by (repeat (first | exact Below.refl _ _ | assumption | (refine Below.alloc ?_ (by first | omega | (simp; done) | (simp; omega)) _) | (refine Below.setCell ?_ (by first | omega | (simp; done) | (simp; omega)) _) | (refine Below.drew ?_) | (refine Below.drewN ?_ _) | (refine Below.next (by assumption) ?_ (by first | omega | (simp; done) | (simp; omega)))))⟩
  case round =>
    obtain ⟨k, hk, rfl, hown, hbx⟩ := hrel
    obtain ⟨hb, hsz⟩ := boxed hbx
    by_cases hlt : k < L.length
    · obtain ⟨s, hs⟩ := some_of_lt hlt
      obtain ⟨b, off, rfl, h1, h2⟩ := (hm.below hb).spot hs
      have q1 : wr.cell? ⟨w.heap.size, 0, none⟩ = some (.int .i64 a.x) := boxed_cell hbx 0
      have q2 : wr.cell? ⟨w.heap.size, 1, none⟩ = some (.int .i64 a.y) := boxed_cell hbx 1
      have hsg := all_at HL.out hs
      have HS := Lib.hid hs
      have HO := Lib.hid hown
      clear hs hown
      go_wp2_with fail
      refine (soundTime_any a s HA.out hsg _).mono ?_
      rintro e w1 ⟨rfl, hq⟩
      have ho := own_below (HO.out.alloc (.cells #[.int .i64 s.x, .int .i64 s.y] 25)) hq
      have hz : wr.heap.size + 1 ≤ w1.heap.size := by have := hq.size; simpa using this
      have hB1 : Below (w.heap.size + 1) (w.alloc (.cells #[.int .i64 a.x, .int .i64 a.y] 25)) w1 := by (repeat (first | exact Below.refl _ _ | assumption | (refine Below.alloc ?_ (by first | omega | (simp; done) | (simp; omega)) _) | (refine Below.setCell ?_ (by first | omega | (simp; done) | (simp; omega)) _) | (refine Below.drew ?_) | (refine Below.drewN ?_ _) | (refine Below.next (by assumption) ?_ (by first | omega | (simp; done) | (simp; omega)))))
      have HO2 := Lib.hid ho
      have HB := Lib.hid hB1
      clear q1 q2 ho hq hb hB1 hbx h1 h2
      go_wp2_with (at_builtin; refine wpList_append_one _ rfl (.tmp 15) (.tmp 19) 35 rfl (w.heap.size + 1) 3 i0 (.int .i64 0) 1 8 Try.underlying35 hi hz0 hz1 hz2 rfl (by omega) _ _ _ rfl HO2.out _ _ _ rfl rfl rfl (by omega) (by omega) (by omega) ?_; intro v' w2 hown' hb2)
      go_roundw
      case rel =>
        have e1 : (times L a).take (k + 1) = (times L a).take k ++ [(sndT (sq a s) : Int)] := by
          rw [List.take_add_one, times_at HS.out]; rfl
        exact ⟨k + 1, by omega, by go_num, by rw [e1, ints_snoc]; exact hown', HB.out.trans hb2⟩
      case measure => simp [intOf]; omega
    · go_wp2
      go_ret
      have e1 : k = L.length := by omega
      subst e1
      rw [List.take_of_length_le (by rw [times_len]; omega)] at hown
      obtain ⟨A', c', rfl⟩ := own_form hown
      exact ⟨_, _, rfl, own_base hown (by omega), hb⟩

set_option maxRecDepth 100000 in
theorem spreadOf_any (A : Option Addr) (c : Nat) (T : List Int) (w : World) (hm : Mem w A (ints T)) (hl : T.length ≤ 1048576) (h0 : 0 < T.length) (hb : ∀ x ∈ T, -1000000 ≤ x ∧ x ≤ 1000000) : Calls Try.prog 81 #[.slice A T.length c] w fun e w' =>
    e = .returned (.tuple #[.int .i64 (lowOf T), .int .i64 (highOf T - lowOf T)]) ∧ Below w.heap.size w w' := by
  obtain ⟨b, off, rfl, h1⟩ := hm.int (headD_at h0)
  have hz := hb _ (head_mem h0)
  have HL : Hid (lowOf T = T.foldl min (T.headD 0)) := Lib.hid rfl
  have HH : Hid (highOf T = T.foldl max (T.headD 0)) := Lib.hid rfl
  generalize T.headD 0 = z at h1 hz HL HH
  have h1' : w.cell? ⟨b, off, none⟩ = some (.int .i64 z) := by simpa using h1
  have h0' : (0 : Int) < (T.length : Int) := by omega
  have HB := Lib.hid hb
  clear hb h1
  go_enter Try.func81, Try.ntmps81
  go_wp2
  go_quiet (fail)
  go_wp2
  go_loop [4, 5, 7, 16] (fun lo hi _ i => ∃ (k : Nat) (x y : Int), k ≤ T.length ∧ i = .int .i64 k ∧ lo = .int .i64 x ∧ hi = .int .i64 y ∧ -1000000 ≤ x ∧ x ≤ 1000000 ∧ -1000000 ≤ y ∧ y ≤ 1000000 ∧ Hid ((T.take k).foldl min z = x) ∧ Hid ((T.take k).foldl max z = y)) (fun _ _ _ i => T.length - (intOf i).toNat)
  case atStart => exact ⟨0, z, z, by omega, rfl, rfl, rfl, hz.1, hz.2, hz.1, hz.2, Lib.hid (by simp), Lib.hid (by simp)⟩
  case round =>
    obtain ⟨k, x, y, hk, rfl, rfl, rfl, x1, x2, y1, y2, HX, HY⟩ := hrel
    by_cases hlt : k < T.length
    · obtain ⟨s, hs⟩ := some_of_lt hlt
      obtain ⟨b2, off2, e2, h2⟩ := hm.int hs
      obtain ⟨rfl, rfl⟩ : b = b2 ∧ off = off2 := by simpa using e2
      have hsb := HB.out s (List.mem_of_getElem? hs)
      have HS := Lib.hid hs
      clear hs e2
      go_wp2
      go_round
      case rel => exact ⟨k + 1, min x s, max y s, by omega, by go_num, by rw [ite_min], by rw [ite_max], by omega, by omega, by omega, by omega, Lib.hid (by rw [fold_succ _ _ HS.out, HX.out]), Lib.hid (by rw [fold_succ _ _ HS.out, HY.out])⟩
      case measure => simp [intOf]; omega
    · go_wp2
      go_ret2
      have e1 := HX.out
      have e2 := HY.out
      rw [fold_all _ _ (by omega)] at e1 e2
      exact ⟨ret_ints (by rw [HL.out, e1]) (by rw [HL.out, HH.out, e1, e2]), by (repeat (first | exact Below.refl _ _ | assumption | (refine Below.alloc ?_ (by first | omega | (simp; done) | (simp; omega)) _) | (refine Below.setCell ?_ (by first | omega | (simp; done) | (simp; omega)) _) | (refine Below.drew ?_) | (refine Below.drewN ?_ _) | (refine Below.next (by assumption) ?_ (by first | omega | (simp; done) | (simp; omega)))))⟩

set_option maxRecDepth 100000 in
/-- The reference's least and greatest time. -/
theorem snEnds_any (A : Option Addr) (c : Nat) (L : List Sp) (a : Sp) (w : World) (hm : Mem w A (spots L)) (hl : L.length ≤ 40) (h0 : 0 < L.length) (hL : L.all isSp = true) (ha : isSp a = true) : Calls Try.prog 90 #[.slice A L.length c, .agg #[.int .i64 a.x, .int .i64 a.y]] w fun e w' =>
    e = .returned (.tuple #[.int .i64 (lowOf (times L a)), .int .i64 (highOf (times L a))]) ∧ Below w.heap.size w w' := by
  obtain ⟨s0, hs0⟩ := some_of_lt h0
  obtain ⟨b, off, rfl, g1, g2⟩ := hm.spot hs0
  have k1 : w.cell? ⟨b, off, none⟩ = some (.int .i64 s0.x) := by simpa using g1
  have k2 : w.cell? ⟨b, off + 1, none⟩ = some (.int .i64 s0.y) := by simpa using g2
  have h0' : (0 : Int) < (L.length : Int) := by omega
  have hbl : b < w.heap.size := World.block_lt_of_cell? w _ k1
  have hg0 := all_at hL hs0
  have HL := Lib.hid hL
  have HA := Lib.hid ha
  have hd : (times L a).headD 0 = tm a s0 := by
    have := headD_at (L := times L a) (by rw [times_len]; exact h0)
    rw [times_at hs0] at this
    exact (Option.some.inj this).symm
  have HLow : Hid (lowOf (times L a) = (times L a).foldl min (tm s0 a)) := Lib.hid (by unfold lowOf; rw [hd, tm_comm])
  have HHigh : Hid (highOf (times L a) = (times L a).foldl max 0) := Lib.hid (highOf_from (by rw [times_len]; exact h0) (fun x hx => by
    obtain ⟨k, hk, rfl⟩ := List.getElem_of_mem hx
    exact (times_bd hL ha (List.getElem?_eq_getElem hk)).1)).symm
  clear hs0 hL ha hd g1 g2
  go_enter Try.func90, Try.ntmps90
  go_wp2
  go_region_held3 (fun w' => w'.cell? ⟨b, off, none⟩ = some (.int .i64 s0.x) ∧ w'.cell? ⟨b, off + 1, none⟩ = some (.int .i64 s0.y) ∧ w'.cell? ⟨w.heap.size, 0, none⟩ = some (.int .i64 a.x) ∧ w'.cell? ⟨w.heap.size, 1, none⟩ = some (.int .i64 a.y)) (first | exact keep4 (by assumption) (by assumption) | (simp [go_sem, World.cell?_alloc_past, *]; done)) (first | (go_at_call 76; refine (snDelay_any s0 a hg0 HA.out _).mono ?_; rintro e w' ⟨rfl, hq⟩; obtain ⟨hz, hc, hf⟩ := bel hq; (try simp at hz); (try have gz1 : w.heap.size < w'.heap.size := by omega); (try have gz2 : w.heap.size + 1 < w'.heap.size := by omega); (try have gz3 : wr.heap.size < w'.heap.size := by omega)))
  have hB0 : Below (w.heap.size + 1) (w.alloc (.cells #[.int .i64 a.x, .int .i64 a.y] 25)) w' := by (repeat (first | exact Below.refl _ _ | assumption | (refine Below.alloc ?_ (by first | omega | (simp; done) | (simp; omega)) _) | (refine Below.setCell ?_ (by first | omega | (simp; done) | (simp; omega)) _) | (refine Below.drew ?_) | (refine Below.drewN ?_ _) | (refine Below.next (by assumption) ?_ (by first | omega | (simp; done) | (simp; omega)))))
  clear hq hz hc hf k1 k2 hbl
  go_wp2
  have t0 := tm_bd hg0 HA.out
  go_loopw [6, 7, 9, 17] (fun lo hi _ i wr => ∃ (k : Nat) (x y : Int), k ≤ L.length ∧ i = .int .i64 k ∧ lo = .int .i64 x ∧ hi = .int .i64 y ∧ Hid (((times L a).take k).foldl min (tm s0 a) = x) ∧ Hid (((times L a).take k).foldl max 0 = y) ∧ Below (w.heap.size + 1) (w.alloc (.cells #[.int .i64 a.x, .int .i64 a.y] 25)) wr) (fun _ _ _ i _ => L.length - (intOf i).toNat)
  case atStart => exact ⟨0, tm s0 a, 0, by omega, rfl, rfl, rfl, Lib.hid (by simp), Lib.hid (by simp), hB0⟩
  case round =>
    obtain ⟨k, x, y, hk, rfl, rfl, rfl, HX, HY, hbx⟩ := hrel
    obtain ⟨hb, hsz⟩ := boxed hbx
    by_cases hlt : k < L.length
    · obtain ⟨s, hs⟩ := some_of_lt hlt
      obtain ⟨b2, off2, e2, h1, h2⟩ := (hm.below hb).spot hs
      obtain ⟨rfl, rfl⟩ : b = b2 ∧ off = off2 := by simpa using e2
      have q1 : wr.cell? ⟨w.heap.size, 0, none⟩ = some (.int .i64 a.x) := boxed_cell hbx 0
      have q2 : wr.cell? ⟨w.heap.size, 1, none⟩ = some (.int .i64 a.y) := boxed_cell hbx 1
      have hsg := all_at HL.out hs
      have HS := Lib.hid hs
      clear hs e2
      go_wp2_with (first | (go_at_call 76; refine (snDelay_any s a hsg HA.out _).mono ?_; rintro e w' ⟨rfl, hq⟩; obtain ⟨hz, hc, hf⟩ := bel hq; (try simp at hz); (try have gz1 : w.heap.size < w'.heap.size := by omega); (try have gz2 : w.heap.size + 1 < w'.heap.size := by omega); (try have gz3 : wr.heap.size < w'.heap.size := by omega)) | (go_at_call 71; refine (l1Least_any _ _ _).mono ?_; rintro e w' ⟨rfl, rfl⟩) | (go_at_call 117; refine (l1Most_any _ _ _).mono ?_; rintro e w' ⟨rfl, rfl⟩))
      go_roundw
      case rel => exact ⟨k + 1, min x (tm s a), max y (tm s a), by omega, by go_num, rfl, rfl, Lib.hid (by rw [fold_succ _ _ (times_at HS.out), HX.out, tm_comm]), Lib.hid (by rw [fold_succ _ _ (times_at HS.out), HY.out, tm_comm]), by (repeat (first | exact Below.refl _ _ | assumption | (refine Below.alloc ?_ (by first | omega | (simp; done) | (simp; omega)) _) | (refine Below.setCell ?_ (by first | omega | (simp; done) | (simp; omega)) _) | (refine Below.drew ?_) | (refine Below.drewN ?_ _) | (refine Below.next (by assumption) ?_ (by first | omega | (simp; done) | (simp; omega)))))⟩
      case measure => simp [intOf]; omega
    · go_wp2
      go_ret2
      have e1 := HX.out
      have e2 := HY.out
      rw [List.take_of_length_le (by rw [times_len]; omega)] at e1 e2
      exact ⟨ret_ints (by rw [HLow.out, e1]) (by rw [HHigh.out, e2]), hb⟩

theorem times_all {L : List Sp} {a : Sp} (hL : L.all isSp = true) (ha : isSp a = true) : ∀ x ∈ times L a, 0 ≤ x ∧ x ≤ 302 := fun x hx => by
  obtain ⟨k, hk, rfl⟩ := List.getElem_of_mem hx
  exact times_bd hL ha (List.getElem?_eq_getElem hk)

set_option maxRecDepth 100000 in
theorem snSpread_any (A : Option Addr) (c : Nat) (L : List Sp) (a : Sp) (w : World) (hm : Mem w A (spots L)) (hl : L.length ≤ 40) (h0 : 0 < L.length) (hL : L.all isSp = true) (ha : isSp a = true) : Calls Try.prog 85 #[.slice A L.length c, .agg #[.int .i64 a.x, .int .i64 a.y]] w fun e w' =>
    e = .returned (.int .i64 (spr L a)) ∧ Below w.heap.size w w' := by
  have b1 := low_bd (L := times L a) (m := 0) (M := 302) (by rw [times_len]; exact h0) (times_all hL ha)
  have b2 := high_bd (L := times L a) (m := 0) (M := 302) (by rw [times_len]; exact h0) (times_all hL ha)
  go_enter Try.func85, Try.ntmps85
  go_wp2_with (go_at_call 90; refine (snEnds_any _ _ L a _ (hm.below (by (repeat (first | exact Below.refl _ _ | assumption | (refine Below.alloc ?_ (by first | omega | (simp; done) | (simp; omega)) _) | (refine Below.setCell ?_ (by first | omega | (simp; done) | (simp; omega)) _) | (refine Below.drew ?_) | (refine Below.drewN ?_ _) | (refine Below.next (by assumption) ?_ (by first | omega | (simp; done) | (simp; omega))))))) hl h0 hL ha).mono ?_; rintro e w' ⟨rfl, hq⟩; obtain ⟨hz, hc, hf⟩ := bel hq; (try simp at hz); (try have gz1 : w.heap.size < w'.heap.size := by omega); (try have gz2 : w.heap.size + 1 < w'.heap.size := by omega); (try have gz3 : wr.heap.size < w'.heap.size := by omega))
  go_ret
  exact ⟨rfl, by (repeat (first | exact Below.refl _ _ | assumption | (refine Below.alloc ?_ (by first | omega | (simp; done) | (simp; omega)) _) | (refine Below.setCell ?_ (by first | omega | (simp; done) | (simp; omega)) _) | (refine Below.drew ?_) | (refine Below.drewN ?_ _) | (refine Below.next (by assumption) ?_ (by first | omega | (simp; done) | (simp; omega)))))⟩

end Go.Proofs.Ytdipmjflgjlfeaa
