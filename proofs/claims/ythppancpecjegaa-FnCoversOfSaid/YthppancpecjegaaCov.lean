/-
  Contracts: CoveredSpots, the program's and the reference's.
-/
import Derived.Test.YthppancpecjegaaAbl
import Derived.Test.YthppancpecjegaaCpySp
import Derived.Test.YthppancpecjegaaKeep
import Derived.RegionTactic
import Derived.BigRegion
namespace Go.Proofs.Ythppancpecjegaa
open Go.RowKit Go.Sort

/-- The spot of the performer i behind the changes, where the first n movers have gone. -/
def cvAt (L : List Sp) (op mv : List Int) (n i : Nat) : Sp := if has (mv.take n) (i : Int) then L.getD (op.getD (idx mv (i : Int)).toNat 0).toNat ⟨0, 0⟩ else L.getD i ⟨0, 0⟩
/-- The chart in which the first n movers have gone. -/
def nowTo (L : List Sp) (op mv : List Int) : Nat → List Sp
  | 0 => L
  | n + 1 => (nowTo L op mv n).set (mv.getD n 0).toNat (L.getD (op.getD n 0).toNat ⟨0, 0⟩)
theorem nowTo_len (L : List Sp) (op mv : List Int) : ∀ n, (nowTo L op mv n).length = L.length
  | 0 => rfl
  | n + 1 => by rw [nowTo, List.length_set, nowTo_len L op mv n]
theorem nowTo_succ {L : List Sp} {op mv : List Int} {n x y : Nat} {s : Sp} (hx : mv[n]? = some (x : Int)) (hy : op[n]? = some (y : Int)) (hs : L[y]? = some s) : nowTo L op mv (n + 1) = (nowTo L op mv n).set x s := by
  have e1 : mv.getD n 0 = (x : Int) := by simp [List.getD, hx]
  have e2 : op.getD n 0 = (y : Int) := by simp [List.getD, hy]
  have e3 : L.getD y ⟨0, 0⟩ = s := by simp [List.getD, hs]
  rw [nowTo, e1, e2]
  simp only [Int.toNat_natCast, e3]
theorem nowTo_at {L : List Sp} {op mv sp : List Int} (hm : mv.length ≤ op.length) (hcov : covTo sp mv mv.length = true) (hr : ∀ x ∈ mv, 0 ≤ x ∧ x < L.length) : ∀ n, n ≤ mv.length → ∀ i, i < L.length → (nowTo L op mv n)[i]? = some (cvAt L op mv n i)
  | 0, _, i, hi => by
    simp only [nowTo, cvAt, List.take_zero]
    simp [has, List.getD, hi]
  | n + 1, hn, i, hi => by
    obtain ⟨x, hx⟩ := some_of_lt (L := mv) (k := n) (by omega)
    have hxr := hr x (List.mem_of_getElem? hx)
    obtain ⟨x, rfl, hxl⟩ := nat_of hxr.1 hxr.2
    have hno := (covTo_at hcov (by omega) hx).2
    have e1 : mv.getD n 0 = (x : Int) := by simp [List.getD, hx]
    rw [nowTo, e1, Int.toNat_natCast, List.getElem?_set]
    have ht : has (mv.take (n + 1)) (i : Int) = (decide ((x : Int) = (i : Int)) || has (mv.take n) (i : Int)) := by
      rw [Bool.eq_iff_iff, has_iff, Bool.or_eq_true, has_iff, List.take_add_one, hx]
      simp [or_comm, eq_comm]
    by_cases hxi : x = i
    · subst hxi
      rw [if_pos rfl, if_pos (by rw [nowTo_len]; exact hi)]
      have h1 : has (mv.take (n + 1)) (x : Int) = true := by rw [ht]; simp
      rw [cvAt, h1, if_pos rfl, idx_at hno hx]
      simp
    · rw [if_neg hxi, nowTo_at hm hcov hr n (by omega) i hi]
      have h1 : has (mv.take (n + 1)) (i : Int) = has (mv.take n) (i : Int) := by
        rw [ht]
        have : decide ((x : Int) = (i : Int)) = false := decide_eq_false (by omega)
        rw [this]; rfl
      rw [cvAt, cvAt, h1]
/-- The first k performers' spots behind the changes, but for the absent ones. -/
def cvTo (L : List Sp) (a op mv : List Int) : Nat → List Sp
  | 0 => []
  | k + 1 => if has a (k : Int) then cvTo L a op mv k else cvTo L a op mv k ++ [cvAt L op mv mv.length k]
theorem cvTo_len (L : List Sp) (a op mv : List Int) : ∀ k, (cvTo L a op mv k).length ≤ k
  | 0 => Nat.le_refl _
  | k + 1 => by
    have := cvTo_len L a op mv k
    rw [cvTo]
    split
    · omega
    · simp; omega
def cdV (L : List Sp) (a n mv : List Int) : List Sp := if csOk L a n mv then cvTo L a (opens a n) mv L.length else []
theorem cdV_le (L : List Sp) (a n mv : List Int) : (cdV L a n mv).length ≤ L.length := by
  unfold cdV; split
  · exact cvTo_len _ _ _ _ _
  · simp
theorem cvAt_yes {L : List Sp} {op mv : List Int} {i k y : Nat} {s : Sp} (hi : idx mv (i : Int) = (k : Int)) (hk : has mv (i : Int) = true) (hy : op[k]? = some (y : Int)) (hs : L[y]? = some s) : cvAt L op mv mv.length i = s := by
  rw [cvAt, List.take_length, hk, if_pos rfl, hi]
  simp [List.getD, hy, hs]
theorem cvAt_no {L : List Sp} {op mv : List Int} {i : Nat} {s : Sp} (hk : has mv (i : Int) = false) (hs : L[i]? = some s) : cvAt L op mv mv.length i = s := by
  rw [cvAt, List.take_length, hk, if_neg (by simp)]
  simp [List.getD, hs]

theorem spots_one : ∀ (L : List Sp), ∀ u ∈ spots L, u.oneCell' = true := fun L u hu => by
  simp only [spots, List.mem_flatMap] at hu
  obtain ⟨s, _, hu⟩ := hu
  simp at hu
  rcases hu with rfl | rfl <;> rfl
set_option maxRecDepth 100000 in
/-- Spots copied into memory of the call's own. -/
theorem chOwn_any (A : Option Addr) (c : Nat) (L : List Sp) (w : World) (hm : Mem w A (spots L)) (hl : L.length ≤ 1048576) (h0 : 0 < L.length) : Calls Try.prog 58 #[.slice A L.length c] w fun e w' =>
    ∃ A' c', e = .returned (.slice A' L.length c') ∧ w'.ownsRow w.heap.size 54 2 (.slice A' L.length c') L.length (spots L) ∧ Below w.heap.size w w' := by
  obtain ⟨i0, hi, hz0, hz1, hz2⟩ := info_parts info_spot
  obtain ⟨b, off, rfl, hc⟩ := hm (by intro h; have := spots_len L; rw [h] at this; simp at this; omega)
  have HC := Lib.hid hc
  clear hc
  have hbl : b < w.heap.size := World.block_lt_of_cell? w _ (HC.out 0 _ (List.getElem?_eq_getElem (by rw [spots_len]; omega)))
  have ho0 : (w.alloc (.cells #[] 54)).ownsRow w.heap.size 54 2 (.slice (some ⟨w.heap.size, 0, none⟩) 0 0) 0 [] := own_empty _ _ rfl (Nat.le_refl _) rfl
  have HO := Lib.hid ho0
  clear ho0
  go_enter Try.func58, Try.ntmps58
  go_wp2_with (at_builtin; refine wpList_append_own _ rfl (.tmp 3) (.tmp 4) 27 rfl w.heap.size 54 i0 (.agg #[.int .i64 0, .int .i64 0]) 2 16 Try.underlying27 hi hz0 hz1 hz2 rfl (by omega) _ _ _ rfl HO.out ⟨b, off, none⟩ L.length c (spots L) rfl (spots_len L) (fun j u hu => by rw [Addr.add_lit]; exact keep1 ((Below.refl _ _).alloc (Nat.le_refl _) _) (HC.out j u hu)) (spots_one L) (by unfold maxLen; omega) (by omega) (by simp) ?_; intro v' w1 ho1 hg1 _)
  go_ret
  rw [Nat.zero_add, List.nil_append] at ho1
  obtain ⟨A', c', rfl⟩ := own_form ho1
  exact ⟨A', c', rfl, ho1, ((Below.refl _ _).alloc (Nat.le_refl _) _).grown hg1 (by simp) (fun k hk => by have h9 : w.heap.size = k := Option.some.inj hk; omega)⟩

set_option maxRecDepth 100000 in
set_option maxHeartbeats 3200000 in
theorem spec_CoveredSpots_any (A : Option Addr) (c : Nat) (L : List Sp) (B : Option Addr) (d : Nat) (a : List Int) (C : Option Addr) (f : Nat) (n : List Int) (D : Option Addr) (g : Nat) (mv : List Int) (w : World) (hm : Mem w A (spots L)) (ha : Mem w B (ints a)) (hn : Mem w C (ints n)) (hv : Mem w D (ints mv)) (hl : L.length ≤ 1048576) (hl2 : a.length ≤ 1048576) (hl3 : n.length ≤ 1048576) (hl4 : mv.length ≤ 1048576) (hlc : L.length ≤ c) (hvc : mv.length ≤ g) : Calls Try.prog 25 #[.slice A L.length c, .slice B a.length d, .slice C n.length f, .slice D mv.length g] w (RetSpots w (cdV L a n mv) (csOk L a n mv)) := by
  cases h1 : abOk L a n
  all_goals have H1 := Lib.hid h1
  · clear h1
    go_enter Try.func25, Try.ntmps25
    go_wp2_with (go_at_call 43; refine (abAsked_any _ _ L _ _ a _ _ n _ (hm.below (by (repeat (first | exact Below.refl _ _ | assumption | (refine Below.alloc ?_ (by first | omega | (simp; done) | (simp; omega)) _) | (refine Below.setCell ?_ (by first | omega | (simp; done) | (simp; omega)) _) | (refine Below.drew ?_) | (refine Below.drewN ?_ _) | (refine Below.next (by assumption) ?_ (by first | omega | (simp; done) | (simp; omega))))))) (ha.below (by (repeat (first | exact Below.refl _ _ | assumption | (refine Below.alloc ?_ (by first | omega | (simp; done) | (simp; omega)) _) | (refine Below.setCell ?_ (by first | omega | (simp; done) | (simp; omega)) _) | (refine Below.drew ?_) | (refine Below.drewN ?_ _) | (refine Below.next (by assumption) ?_ (by first | omega | (simp; done) | (simp; omega))))))) (hn.below (by (repeat (first | exact Below.refl _ _ | assumption | (refine Below.alloc ?_ (by first | omega | (simp; done) | (simp; omega)) _) | (refine Below.setCell ?_ (by first | omega | (simp; done) | (simp; omega)) _) | (refine Below.drew ?_) | (refine Below.drewN ?_ _) | (refine Below.next (by assumption) ?_ (by first | omega | (simp; done) | (simp; omega))))))) hl hl2 hl3 hlc).mono ?_; rintro e w' ⟨he, hq⟩; rw [H1.out] at he; subst he)
    go_ret2
    exact RetSpots.none_ (by simp [cdV, csOk, H1.out]) (by simp [csOk, H1.out]) (by (repeat (first | exact Below.refl _ _ | assumption | (refine Below.alloc ?_ (by first | omega | (simp; done) | (simp; omega)) _) | (refine Below.setCell ?_ (by first | omega | (simp; done) | (simp; omega)) _) | (refine Below.drew ?_) | (refine Below.drewN ?_ _) | (refine Below.next (by assumption) ?_ (by first | omega | (simp; done) | (simp; omega))))))
  cases h2 : covOk L.length a n mv
  all_goals have H2 := Lib.hid h2
  · clear h1 h2
    go_enter Try.func25, Try.ntmps25
    go_wp2_with (first | (go_at_call 43; refine (abAsked_any _ _ L _ _ a _ _ n _ (hm.below (by (repeat (first | exact Below.refl _ _ | assumption | (refine Below.alloc ?_ (by first | omega | (simp; done) | (simp; omega)) _) | (refine Below.setCell ?_ (by first | omega | (simp; done) | (simp; omega)) _) | (refine Below.drew ?_) | (refine Below.drewN ?_ _) | (refine Below.next (by assumption) ?_ (by first | omega | (simp; done) | (simp; omega))))))) (ha.below (by (repeat (first | exact Below.refl _ _ | assumption | (refine Below.alloc ?_ (by first | omega | (simp; done) | (simp; omega)) _) | (refine Below.setCell ?_ (by first | omega | (simp; done) | (simp; omega)) _) | (refine Below.drew ?_) | (refine Below.drewN ?_ _) | (refine Below.next (by assumption) ?_ (by first | omega | (simp; done) | (simp; omega))))))) (hn.below (by (repeat (first | exact Below.refl _ _ | assumption | (refine Below.alloc ?_ (by first | omega | (simp; done) | (simp; omega)) _) | (refine Below.setCell ?_ (by first | omega | (simp; done) | (simp; omega)) _) | (refine Below.drew ?_) | (refine Below.drewN ?_ _) | (refine Below.next (by assumption) ?_ (by first | omega | (simp; done) | (simp; omega))))))) hl hl2 hl3 hlc).mono ?_; rintro e w' ⟨he, hq⟩; rw [H1.out] at he; subst he; have hz := hq.size) | (go_at_call 53; refine (abCover_any _ _ L _ _ a _ _ n _ _ mv _ (ha.below (by (repeat (first | exact Below.refl _ _ | assumption | (refine Below.alloc ?_ (by first | omega | (simp; done) | (simp; omega)) _) | (refine Below.setCell ?_ (by first | omega | (simp; done) | (simp; omega)) _) | (refine Below.drew ?_) | (refine Below.drewN ?_ _) | (refine Below.next (by assumption) ?_ (by first | omega | (simp; done) | (simp; omega))))))) (hn.below (by (repeat (first | exact Below.refl _ _ | assumption | (refine Below.alloc ?_ (by first | omega | (simp; done) | (simp; omega)) _) | (refine Below.setCell ?_ (by first | omega | (simp; done) | (simp; omega)) _) | (refine Below.drew ?_) | (refine Below.drewN ?_ _) | (refine Below.next (by assumption) ?_ (by first | omega | (simp; done) | (simp; omega))))))) (hv.below (by (repeat (first | exact Below.refl _ _ | assumption | (refine Below.alloc ?_ (by first | omega | (simp; done) | (simp; omega)) _) | (refine Below.setCell ?_ (by first | omega | (simp; done) | (simp; omega)) _) | (refine Below.drew ?_) | (refine Below.drewN ?_ _) | (refine Below.next (by assumption) ?_ (by first | omega | (simp; done) | (simp; omega))))))) hl hl2 hl3 hl4 hvc).mono ?_; rintro e w' ⟨he, hq2⟩; rw [H2.out] at he; subst he))
    go_ret2
    exact RetSpots.none_ (by simp [cdV, csOk, H2.out]) (by simp [csOk, H2.out]) (by (repeat (first | exact Below.refl _ _ | assumption | (refine Below.alloc ?_ (by first | omega | (simp; done) | (simp; omega)) _) | (refine Below.setCell ?_ (by first | omega | (simp; done) | (simp; omega)) _) | (refine Below.drew ?_) | (refine Below.drewN ?_ _) | (refine Below.next (by assumption) ?_ (by first | omega | (simp; done) | (simp; omega))))))
  have HV : Hid (cdV L a n mv = cvTo L a (opens a n) mv L.length ∧ csOk L a n mv = true) := Lib.hid (by simp [cdV, csOk, h1, h2])
  have hlen := ab_lens h1
  obtain ⟨hlen1, hlen2, hlen3⟩ := hlen
  have HLE := Lib.hid (covOk_iff.1 h2).2
  have HNA := Lib.hid (nowTo_at (L := L) (op := opens a n) (mv := mv) (sp := spares L.length a n) (by have := (covOk_iff.1 h2).2; omega) (covOk_iff.1 h2).1 (fun x hx => by
    obtain ⟨k, hk⟩ := List.getElem?_of_mem hx
    obtain ⟨y, rfl, hy⟩ := mv_nat h2 hk
    omega) mv.length (Nat.le_refl _))
  have hol := opens_len a n
  obtain ⟨i0, hi, hz0, hz1, hz2⟩ := info_parts info_spot
  clear h1 h2
  go_enter Try.func25, Try.ntmps25
  go_wp2_with fail
  refine (abAsked_any _ _ L _ _ a _ _ n _ (hm.below (by (repeat (first | exact Below.refl _ _ | assumption | (refine Below.alloc ?_ (by first | omega | (simp; done) | (simp; omega)) _) | (refine Below.setCell ?_ (by first | omega | (simp; done) | (simp; omega)) _) | (refine Below.drew ?_) | (refine Below.drewN ?_ _) | (refine Below.next (by assumption) ?_ (by first | omega | (simp; done) | (simp; omega))))))) (ha.below (by (repeat (first | exact Below.refl _ _ | assumption | (refine Below.alloc ?_ (by first | omega | (simp; done) | (simp; omega)) _) | (refine Below.setCell ?_ (by first | omega | (simp; done) | (simp; omega)) _) | (refine Below.drew ?_) | (refine Below.drewN ?_ _) | (refine Below.next (by assumption) ?_ (by first | omega | (simp; done) | (simp; omega))))))) (hn.below (by (repeat (first | exact Below.refl _ _ | assumption | (refine Below.alloc ?_ (by first | omega | (simp; done) | (simp; omega)) _) | (refine Below.setCell ?_ (by first | omega | (simp; done) | (simp; omega)) _) | (refine Below.drew ?_) | (refine Below.drewN ?_ _) | (refine Below.next (by assumption) ?_ (by first | omega | (simp; done) | (simp; omega))))))) hl hl2 hl3 hlc).mono ?_
  rintro e w1 ⟨he, hq1⟩
  rw [H1.out] at he
  subst he
  have hz1' := hq1.size
  go_wp2_with fail
  refine (abCover_any _ _ L _ _ a _ _ n _ _ mv _ (ha.below (by (repeat (first | exact Below.refl _ _ | assumption | (refine Below.alloc ?_ (by first | omega | (simp; done) | (simp; omega)) _) | (refine Below.setCell ?_ (by first | omega | (simp; done) | (simp; omega)) _) | (refine Below.drew ?_) | (refine Below.drewN ?_ _) | (refine Below.next (by assumption) ?_ (by first | omega | (simp; done) | (simp; omega))))))) (hn.below (by (repeat (first | exact Below.refl _ _ | assumption | (refine Below.alloc ?_ (by first | omega | (simp; done) | (simp; omega)) _) | (refine Below.setCell ?_ (by first | omega | (simp; done) | (simp; omega)) _) | (refine Below.drew ?_) | (refine Below.drewN ?_ _) | (refine Below.next (by assumption) ?_ (by first | omega | (simp; done) | (simp; omega))))))) (hv.below (by (repeat (first | exact Below.refl _ _ | assumption | (refine Below.alloc ?_ (by first | omega | (simp; done) | (simp; omega)) _) | (refine Below.setCell ?_ (by first | omega | (simp; done) | (simp; omega)) _) | (refine Below.drew ?_) | (refine Below.drewN ?_ _) | (refine Below.next (by assumption) ?_ (by first | omega | (simp; done) | (simp; omega))))))) hl hl2 hl3 hl4 hvc).mono ?_
  rintro e w2 ⟨he, hq2⟩
  rw [H2.out] at he
  subst he
  have hz2' := hq2.size
  go_wp2_with fail
  refine (chOwn_any _ _ L _ (hm.below (by (repeat (first | exact Below.refl _ _ | assumption | (refine Below.alloc ?_ (by first | omega | (simp; done) | (simp; omega)) _) | (refine Below.setCell ?_ (by first | omega | (simp; done) | (simp; omega)) _) | (refine Below.drew ?_) | (refine Below.drewN ?_ _) | (refine Below.next (by assumption) ?_ (by first | omega | (simp; done) | (simp; omega))))))) hl (by omega)).mono ?_
  rintro e w3 ⟨A3, c3, rfl, ho3, hq3⟩
  have hz3' := hq3.size
  go_wp2_with fail
  refine (abOpen_any _ _ a _ _ n _ (ha.below (by (repeat (first | exact Below.refl _ _ | assumption | (refine Below.alloc ?_ (by first | omega | (simp; done) | (simp; omega)) _) | (refine Below.setCell ?_ (by first | omega | (simp; done) | (simp; omega)) _) | (refine Below.drew ?_) | (refine Below.drewN ?_ _) | (refine Below.next (by assumption) ?_ (by first | omega | (simp; done) | (simp; omega))))))) (hn.below (by (repeat (first | exact Below.refl _ _ | assumption | (refine Below.alloc ?_ (by first | omega | (simp; done) | (simp; omega)) _) | (refine Below.setCell ?_ (by first | omega | (simp; done) | (simp; omega)) _) | (refine Below.drew ?_) | (refine Below.drewN ?_ _) | (refine Below.next (by assumption) ?_ (by first | omega | (simp; done) | (simp; omega))))))) hl2 hl3).mono ?_
  rintro e w4 ⟨A4, c4, rfl, ho4, hq4⟩
  have hz4' := hq4.size
  have hb4 : Below w.heap.size w w4 := by (repeat (first | exact Below.refl _ _ | assumption | (refine Below.alloc ?_ (by first | omega | (simp; done) | (simp; omega)) _) | (refine Below.setCell ?_ (by first | omega | (simp; done) | (simp; omega)) _) | (refine Below.drew ?_) | (refine Below.drewN ?_ _) | (refine Below.next (by assumption) ?_ (by first | omega | (simp; done) | (simp; omega)))))
  have ho3' := own_below ho3 hq4
  have HO3 := Lib.hid (own_base ho3' (base' := w.heap.size) (by omega))
  have HOLT := Lib.hid ho3.lt
  have HO4 := Lib.hid ho4
  clear hq1 hq2 hq3 hq4 ho3 ho3' ho4
  go_wp2_with fail
  go_loopw [11, 12, 35] (fun _ _ i wr => ∃ k : Nat, k ≤ (opens a n).length ∧ i = .int .i64 k ∧ wr.ownsRow w.heap.size 54 2 (.slice A3 L.length c3) L.length (spots (nowTo L (opens a n) mv k)) ∧ wr.ownsRow w3.heap.size 3 1 (.slice A4 (opens a n).length c4) (opens a n).length (ints (opens a n)) ∧ Below w.heap.size w wr) (fun _ _ i _ => (opens a n).length - (intOf i).toNat)
  case atStart => exact ⟨0, by omega, rfl, HO3.out, HO4.out, hb4⟩
  case round =>
    obtain ⟨k, hk, rfl, ho, hop, hb⟩ := hrel
    by_cases hlt : k < (opens a n).length
    · obtain ⟨y, hy⟩ := some_of_lt hlt
      obtain ⟨y, rfl, hyl⟩ := op_nat H1.out hy
      have hkm : k < mv.length := by have := HLE.out; omega
      obtain ⟨z, hzz⟩ := some_of_lt hkm
      obtain ⟨z, rfl, hzl⟩ := mv_nat H2.out hzz
      obtain ⟨u, hu⟩ := some_of_lt hyl
      obtain ⟨gb, rfl, hg1, hg2⟩ := own_addr ho (by omega)
      obtain ⟨b0, off0, e0, e1⟩ := (Mem.of_own hop).int hy
      obtain ⟨b1, off1, rfl, e2⟩ := (hv.below hb).int hzz
      obtain ⟨b2, off2, rfl, e6, e7⟩ := (hm.below hb).spot hu
      subst e0
      have hnl := nowTo_len L (opens a n) mv k
      have hpl : (spots (nowTo L (opens a n) mv k)).length = L.length * 2 := by rw [spots_len, hnl]
      obtain ⟨old, hold⟩ := some_of_lt (L := spots (nowTo L (opens a n) mv k)) (k := z * 2) (by omega)
      obtain ⟨old2, hold2⟩ := some_of_lt (L := spots (nowTo L (opens a n) mv k)) (k := z * 2 + 1) (by omega)
      have hc1 := (ho.cellAt (z * 2) (by omega)).trans hold
      have hc2 := (ho.cellAt (z * 2 + 1) (by omega)).trans hold2
      have hf1 := ho.frozenAt (z * 2)
      have hf2 := ho.frozenAt (z * 2 + 1)
      have st1 := (ho.stored (z * 2) (.int .i64 u.x)).1
      have st2 := (st1.stored (z * 2 + 1) (.int .i64 u.y)).1
      rw [← spots_set, ← nowTo_succ hzz hy hu] at st2
      have hne : (Value.slice (some ⟨b0, off0, none⟩) (opens a n).length c4).ownBlock ≠ some gb := by
        intro e
        have h1 := (hop.lt _ rfl).1
        have h2 := (HOLT.out gb rfl).2
        have h3 : b0 = gb := Option.some.inj e
        dsimp only at h1
        omega
      have HST := Lib.hid st2
      have HOP := Lib.hid (ownsRow_setCell_other (a := ⟨gb, z * 2 + 1, none⟩) (ownsRow_setCell_other (a := ⟨gb, z * 2, none⟩) hop hne (.int .i64 u.x)) hne (.int .i64 u.y))
      have hy0 : (0 : Int) ≤ (y : Int) := by omega
      have hz0' : (0 : Int) ≤ (z : Int) := by omega
      have hy1 : (y : Int) < (L.length : Int) := by omega
      have hz1'' : (z : Int) < (L.length : Int) := by omega
      clear hy hzz hu hold hold2 hpl st1 st2 ho hop hnl hne
      go_wp2
      go_region
      go_wp2
      go_roundw
      case rel => exact ⟨k + 1, by omega, by go_num, HST.out, HOP.out, ((Below.drew hb).setCell (by (try dsimp only); omega) _).setCell (by (try dsimp only); omega) _⟩
      case measure => simp [intOf]; omega
    · have e1 : k = (opens a n).length := by omega
      subst e1
      have HNR := Lib.hid ho
      clear ho hop HO3 HO4 hb4
      have hzw := hb.size
      rename World => W5
      go_wp2
      go_loopw [13, 14, 15, 53] (fun v _ _ i wr => ∃ k j : Nat, k ≤ L.length ∧ j ≤ L.length ∧ i = .int .i64 k ∧ wr.ownsRow W5.heap.size 54 2 v j (spots (cvTo L a (opens a n) mv k)) ∧ Hid (j = (cvTo L a (opens a n) mv k).length) ∧ Below W5.heap.size W5 wr) (fun _ _ _ i _ => L.length - (intOf i).toNat)
      case atStart => exact ⟨0, 0, by omega, by omega, rfl, World.ownsRow_nil _ _ _ _, Lib.hid rfl, Below.refl _ _⟩
      case round =>
        obtain ⟨k, j, hk2, hj, rfl, hown, HJ, hb6⟩ := hrel
        have hsz6 := hb6.size
        by_cases hlt2 : k < L.length
        · have hcell := HNA.out k hlt2
          rw [show mv.length = (opens a n).length from HLE.out] at hcell
          generalize hX : cvAt L (opens a n) mv (opens a n).length k = X at hcell
          obtain ⟨b2, off2, rfl, e6, e7⟩ := ((Mem.of_own HNR.out).below hb6).spot hcell
          have HX : Hid (cvAt L (opens a n) mv mv.length k = X) := Lib.hid (by rw [show mv.length = (opens a n).length from HLE.out]; exact hX)
          have HST : Hid (cvTo L a (opens a n) mv (k + 1) = if has a (k : Int) then cvTo L a (opens a n) mv k else cvTo L a (opens a n) mv k ++ [cvAt L (opens a n) mv mv.length k]) := Lib.hid rfl
          have HLN := Lib.hid (cvTo_len L a (opens a n) mv (k + 1))
          have HO := Lib.hid (hown.alloc (.cells #[.int .i64 X.x, .int .i64 X.y] 54))
          clear hcell hX hown
          cases hh : has a (k : Int)
          · have HH := Lib.hid hh
            clear hh
            go_wp2_with (first | (go_at_call 59; refine (l1Has_any _ _ a _ _ (ha.below (by (repeat (first | exact Below.refl _ _ | assumption | (refine Below.alloc ?_ (by first | omega | (simp; done) | (simp; omega)) _) | (refine Below.setCell ?_ (by first | omega | (simp; done) | (simp; omega)) _) | (refine Below.drew ?_) | (refine Below.drewN ?_ _) | (refine Below.next (by assumption) ?_ (by first | omega | (simp; done) | (simp; omega))))))) hl2).mono ?_; rintro e w' ⟨he, rfl⟩; rw [HH.out] at he; subst he) | (at_builtin; refine wpList_append_one _ rfl (.tmp 62) (.tmp 64) 27 rfl W5.heap.size 54 i0 (.agg #[.int .i64 0, .int .i64 0]) 2 16 Try.underlying27 hi hz0 hz1 hz2 rfl (by omega) _ _ _ rfl HO.out _ _ _ (congrArg (fun g => Value.slice (some ⟨g, 0, none⟩) 1 1) (by simp)) rfl rfl (by omega) (by omega) (by simp; omega) ?_; intro v' w7 hown' hb7))
            go_roundw
            case rel =>
              have e3 := HST.out
              rw [HH.out, if_neg (by simp), HX.out] at e3
              have e4 := HLN.out
              rw [e3] at e4
              have e5 := HJ.out
              simp at e4
              exact ⟨k + 1, j + 1, by omega, by omega, by go_num, by rw [e3, spots_snoc]; exact hown', Lib.hid (by rw [e3, List.length_append, e5]; rfl), (hb6.alloc (by omega) _).trans hb7⟩
            case measure => simp [intOf]; omega
          · have HH := Lib.hid hh
            clear hh
            go_wp2_with (go_at_call 59; refine (l1Has_any _ _ a _ _ (ha.below (by (repeat (first | exact Below.refl _ _ | assumption | (refine Below.alloc ?_ (by first | omega | (simp; done) | (simp; omega)) _) | (refine Below.setCell ?_ (by first | omega | (simp; done) | (simp; omega)) _) | (refine Below.drew ?_) | (refine Below.drewN ?_ _) | (refine Below.next (by assumption) ?_ (by first | omega | (simp; done) | (simp; omega))))))) hl2).mono ?_; rintro e w' ⟨he, rfl⟩; rw [HH.out] at he; subst he)
            go_roundw
            case rel =>
              have e3 := HST.out
              rw [HH.out, if_pos rfl] at e3
              exact ⟨k + 1, j, by omega, hj, by go_num, by rw [e3]; exact HO.out, Lib.hid (by rw [e3]; exact HJ.out), hb6.alloc (by omega) _⟩
            case measure => simp [intOf]; omega
        · go_wp2
          go_ret2
          have e1 : k = L.length := by omega
          subst e1
          exact RetSpots.some_ HV.out.2 HV.out.1 hown HJ.out (by omega) (Below.next hb6 hb hb.size)

set_option maxRecDepth 100000 in
set_option maxHeartbeats 3200000 in
theorem impl_CoveredSpots_any (A : Option Addr) (c : Nat) (L : List Sp) (B : Option Addr) (d : Nat) (a : List Int) (C : Option Addr) (f : Nat) (n : List Int) (D : Option Addr) (g : Nat) (mv : List Int) (w : World) (hm : Mem w A (spots L)) (ha : Mem w B (ints a)) (hn : Mem w C (ints n)) (hv : Mem w D (ints mv)) (hl : L.length ≤ 1048576) (hl2 : a.length ≤ 1048576) (hl3 : n.length ≤ 1048576) (hl4 : mv.length ≤ 1048576) (hlc : L.length ≤ c) (hvc : mv.length ≤ g) : Calls Try.prog 24 #[.slice A L.length c, .slice B a.length d, .slice C n.length f, .slice D mv.length g] w (RetSpots w (cdV L a n mv) (csOk L a n mv)) := by
  cases h1 : abOk L a n
  all_goals have H1 := Lib.hid h1
  · clear h1
    go_enter Try.func24, Try.ntmps24
    go_wp2_with (go_at_call 40; refine (IsAbsence_any _ _ L _ _ a _ _ n _ (hm.below (by (repeat (first | exact Below.refl _ _ | assumption | (refine Below.alloc ?_ (by first | omega | (simp; done) | (simp; omega)) _) | (refine Below.setCell ?_ (by first | omega | (simp; done) | (simp; omega)) _) | (refine Below.drew ?_) | (refine Below.drewN ?_ _) | (refine Below.next (by assumption) ?_ (by first | omega | (simp; done) | (simp; omega))))))) (ha.below (by (repeat (first | exact Below.refl _ _ | assumption | (refine Below.alloc ?_ (by first | omega | (simp; done) | (simp; omega)) _) | (refine Below.setCell ?_ (by first | omega | (simp; done) | (simp; omega)) _) | (refine Below.drew ?_) | (refine Below.drewN ?_ _) | (refine Below.next (by assumption) ?_ (by first | omega | (simp; done) | (simp; omega))))))) (hn.below (by (repeat (first | exact Below.refl _ _ | assumption | (refine Below.alloc ?_ (by first | omega | (simp; done) | (simp; omega)) _) | (refine Below.setCell ?_ (by first | omega | (simp; done) | (simp; omega)) _) | (refine Below.drew ?_) | (refine Below.drewN ?_ _) | (refine Below.next (by assumption) ?_ (by first | omega | (simp; done) | (simp; omega))))))) hl hl2 hl3 hlc).mono ?_; rintro e w' ⟨he, hq⟩; rw [H1.out] at he; subst he)
    go_ret2
    exact RetSpots.none_ (by simp [cdV, csOk, H1.out]) (by simp [csOk, H1.out]) (by (repeat (first | exact Below.refl _ _ | assumption | (refine Below.alloc ?_ (by first | omega | (simp; done) | (simp; omega)) _) | (refine Below.setCell ?_ (by first | omega | (simp; done) | (simp; omega)) _) | (refine Below.drew ?_) | (refine Below.drewN ?_ _) | (refine Below.next (by assumption) ?_ (by first | omega | (simp; done) | (simp; omega))))))
  cases h2 : covOk L.length a n mv
  all_goals have H2 := Lib.hid h2
  · clear h1 h2
    go_enter Try.func24, Try.ntmps24
    go_wp2_with (first | (go_at_call 40; refine (IsAbsence_any _ _ L _ _ a _ _ n _ (hm.below (by (repeat (first | exact Below.refl _ _ | assumption | (refine Below.alloc ?_ (by first | omega | (simp; done) | (simp; omega)) _) | (refine Below.setCell ?_ (by first | omega | (simp; done) | (simp; omega)) _) | (refine Below.drew ?_) | (refine Below.drewN ?_ _) | (refine Below.next (by assumption) ?_ (by first | omega | (simp; done) | (simp; omega))))))) (ha.below (by (repeat (first | exact Below.refl _ _ | assumption | (refine Below.alloc ?_ (by first | omega | (simp; done) | (simp; omega)) _) | (refine Below.setCell ?_ (by first | omega | (simp; done) | (simp; omega)) _) | (refine Below.drew ?_) | (refine Below.drewN ?_ _) | (refine Below.next (by assumption) ?_ (by first | omega | (simp; done) | (simp; omega))))))) (hn.below (by (repeat (first | exact Below.refl _ _ | assumption | (refine Below.alloc ?_ (by first | omega | (simp; done) | (simp; omega)) _) | (refine Below.setCell ?_ (by first | omega | (simp; done) | (simp; omega)) _) | (refine Below.drew ?_) | (refine Below.drewN ?_ _) | (refine Below.next (by assumption) ?_ (by first | omega | (simp; done) | (simp; omega))))))) hl hl2 hl3 hlc).mono ?_; rintro e w' ⟨he, hq⟩; rw [H1.out] at he; subst he; have hz := hq.size) | (go_at_call 50; refine (isCover_any L.length _ _ a _ _ n _ _ mv _ (ha.below (by (repeat (first | exact Below.refl _ _ | assumption | (refine Below.alloc ?_ (by first | omega | (simp; done) | (simp; omega)) _) | (refine Below.setCell ?_ (by first | omega | (simp; done) | (simp; omega)) _) | (refine Below.drew ?_) | (refine Below.drewN ?_ _) | (refine Below.next (by assumption) ?_ (by first | omega | (simp; done) | (simp; omega))))))) (hn.below (by (repeat (first | exact Below.refl _ _ | assumption | (refine Below.alloc ?_ (by first | omega | (simp; done) | (simp; omega)) _) | (refine Below.setCell ?_ (by first | omega | (simp; done) | (simp; omega)) _) | (refine Below.drew ?_) | (refine Below.drewN ?_ _) | (refine Below.next (by assumption) ?_ (by first | omega | (simp; done) | (simp; omega))))))) (hv.below (by (repeat (first | exact Below.refl _ _ | assumption | (refine Below.alloc ?_ (by first | omega | (simp; done) | (simp; omega)) _) | (refine Below.setCell ?_ (by first | omega | (simp; done) | (simp; omega)) _) | (refine Below.drew ?_) | (refine Below.drewN ?_ _) | (refine Below.next (by assumption) ?_ (by first | omega | (simp; done) | (simp; omega))))))) hl hl2 hl3 hl4 hvc).mono ?_; rintro e w' ⟨he, hq2⟩; rw [H2.out] at he; subst he))
    go_ret2
    exact RetSpots.none_ (by simp [cdV, csOk, H2.out]) (by simp [csOk, H2.out]) (by (repeat (first | exact Below.refl _ _ | assumption | (refine Below.alloc ?_ (by first | omega | (simp; done) | (simp; omega)) _) | (refine Below.setCell ?_ (by first | omega | (simp; done) | (simp; omega)) _) | (refine Below.drew ?_) | (refine Below.drewN ?_ _) | (refine Below.next (by assumption) ?_ (by first | omega | (simp; done) | (simp; omega))))))
  have HV : Hid (cdV L a n mv = cvTo L a (opens a n) mv L.length ∧ csOk L a n mv = true) := Lib.hid (by simp [cdV, csOk, h1, h2])
  have hlen := ab_lens h1
  obtain ⟨hlen1, hlen2, hlen3⟩ := hlen
  have HLE := Lib.hid (covOk_iff.1 h2).2
  have hol := opens_len a n
  obtain ⟨i0, hi, hz0, hz1, hz2⟩ := info_parts info_spot
  clear h1 h2
  go_enter Try.func24, Try.ntmps24
  go_wp2_with fail
  refine (IsAbsence_any _ _ L _ _ a _ _ n _ (hm.below (by (repeat (first | exact Below.refl _ _ | assumption | (refine Below.alloc ?_ (by first | omega | (simp; done) | (simp; omega)) _) | (refine Below.setCell ?_ (by first | omega | (simp; done) | (simp; omega)) _) | (refine Below.drew ?_) | (refine Below.drewN ?_ _) | (refine Below.next (by assumption) ?_ (by first | omega | (simp; done) | (simp; omega))))))) (ha.below (by (repeat (first | exact Below.refl _ _ | assumption | (refine Below.alloc ?_ (by first | omega | (simp; done) | (simp; omega)) _) | (refine Below.setCell ?_ (by first | omega | (simp; done) | (simp; omega)) _) | (refine Below.drew ?_) | (refine Below.drewN ?_ _) | (refine Below.next (by assumption) ?_ (by first | omega | (simp; done) | (simp; omega))))))) (hn.below (by (repeat (first | exact Below.refl _ _ | assumption | (refine Below.alloc ?_ (by first | omega | (simp; done) | (simp; omega)) _) | (refine Below.setCell ?_ (by first | omega | (simp; done) | (simp; omega)) _) | (refine Below.drew ?_) | (refine Below.drewN ?_ _) | (refine Below.next (by assumption) ?_ (by first | omega | (simp; done) | (simp; omega))))))) hl hl2 hl3 hlc).mono ?_
  rintro e w1 ⟨he, hq1⟩
  rw [H1.out] at he
  subst he
  have hz1' := hq1.size
  go_wp2_with fail
  refine (isCover_any L.length _ _ a _ _ n _ _ mv _ (ha.below (by (repeat (first | exact Below.refl _ _ | assumption | (refine Below.alloc ?_ (by first | omega | (simp; done) | (simp; omega)) _) | (refine Below.setCell ?_ (by first | omega | (simp; done) | (simp; omega)) _) | (refine Below.drew ?_) | (refine Below.drewN ?_ _) | (refine Below.next (by assumption) ?_ (by first | omega | (simp; done) | (simp; omega))))))) (hn.below (by (repeat (first | exact Below.refl _ _ | assumption | (refine Below.alloc ?_ (by first | omega | (simp; done) | (simp; omega)) _) | (refine Below.setCell ?_ (by first | omega | (simp; done) | (simp; omega)) _) | (refine Below.drew ?_) | (refine Below.drewN ?_ _) | (refine Below.next (by assumption) ?_ (by first | omega | (simp; done) | (simp; omega))))))) (hv.below (by (repeat (first | exact Below.refl _ _ | assumption | (refine Below.alloc ?_ (by first | omega | (simp; done) | (simp; omega)) _) | (refine Below.setCell ?_ (by first | omega | (simp; done) | (simp; omega)) _) | (refine Below.drew ?_) | (refine Below.drewN ?_ _) | (refine Below.next (by assumption) ?_ (by first | omega | (simp; done) | (simp; omega))))))) hl hl2 hl3 hl4 hvc).mono ?_
  rintro e w2 ⟨he, hq2⟩
  rw [H2.out] at he
  subst he
  have hz2' := hq2.size
  go_wp2_with fail
  refine (openSpots_any _ _ a _ _ n _ (ha.below (by (repeat (first | exact Below.refl _ _ | assumption | (refine Below.alloc ?_ (by first | omega | (simp; done) | (simp; omega)) _) | (refine Below.setCell ?_ (by first | omega | (simp; done) | (simp; omega)) _) | (refine Below.drew ?_) | (refine Below.drewN ?_ _) | (refine Below.next (by assumption) ?_ (by first | omega | (simp; done) | (simp; omega))))))) (hn.below (by (repeat (first | exact Below.refl _ _ | assumption | (refine Below.alloc ?_ (by first | omega | (simp; done) | (simp; omega)) _) | (refine Below.setCell ?_ (by first | omega | (simp; done) | (simp; omega)) _) | (refine Below.drew ?_) | (refine Below.drewN ?_ _) | (refine Below.next (by assumption) ?_ (by first | omega | (simp; done) | (simp; omega))))))) hl2 hl3).mono ?_
  rintro e w4 ⟨A4, c4, rfl, ho4, hq4⟩
  have hb4 : Below w.heap.size w w4 := by (repeat (first | exact Below.refl _ _ | assumption | (refine Below.alloc ?_ (by first | omega | (simp; done) | (simp; omega)) _) | (refine Below.setCell ?_ (by first | omega | (simp; done) | (simp; omega)) _) | (refine Below.drew ?_) | (refine Below.drewN ?_ _) | (refine Below.next (by assumption) ?_ (by first | omega | (simp; done) | (simp; omega)))))
  have hz4' := hb4.size
  have HO4 := Lib.hid ho4
  have hoe : (w4.alloc (.cells #[] 54)).ownsRow w4.heap.size 54 2 (.slice (some ⟨w4.heap.size, 0, none⟩) 0 0) 0 (spots (cvTo L a (opens a n) mv 0)) := own_empty _ _ rfl (Nat.le_refl _) rfl
  have HOE := Lib.hid hoe
  clear hq1 hq2 hq4 ho4 hoe
  go_wp2_with fail
  go_loopw [11, 12, 13, 14, 35] (fun v _ _ _ i wr => ∃ k j : Nat, k ≤ L.length ∧ j ≤ L.length ∧ i = .int .i64 k ∧ wr.ownsRow w4.heap.size 54 2 v j (spots (cvTo L a (opens a n) mv k)) ∧ Hid (j = (cvTo L a (opens a n) mv k).length) ∧ Below w4.heap.size w4 wr) (fun _ _ _ _ i _ => L.length - (intOf i).toNat)
  case atStart => exact ⟨0, 0, by omega, by omega, rfl, HOE.out, Lib.hid rfl, by (repeat (first | exact Below.refl _ _ | assumption | (refine Below.alloc ?_ (by first | omega | (simp; done) | (simp; omega)) _) | (refine Below.setCell ?_ (by first | omega | (simp; done) | (simp; omega)) _) | (refine Below.drew ?_) | (refine Below.drewN ?_ _) | (refine Below.next (by assumption) ?_ (by first | omega | (simp; done) | (simp; omega)))))⟩
  case round =>
    obtain ⟨k, j, hk, hj, rfl, hown, HJ, hb6⟩ := hrel
    have hsz6 := hb6.size
    have hb := Below.next hb6 hb4 hz4'
    have hszw := hb.size
    by_cases hlt : k < L.length
    · obtain ⟨s, hs⟩ := some_of_lt hlt
      obtain ⟨b, off, rfl, e1, e2⟩ := (hm.below hb).spot hs
      have hbl : b < wr.heap.size := World.block_lt_of_cell? wr _ e1
      have HS := Lib.hid hs
      clear hs
      have HST : Hid (cvTo L a (opens a n) mv (k + 1) = if has a (k : Int) then cvTo L a (opens a n) mv k else cvTo L a (opens a n) mv k ++ [cvAt L (opens a n) mv mv.length k]) := Lib.hid rfl
      have HLN := Lib.hid (cvTo_len L a (opens a n) mv (k + 1))
      cases hh : has a (k : Int)
      case true =>
        have HH := Lib.hid hh
        have HO := Lib.hid (hown.alloc (.cells #[.int .i64 s.x, .int .i64 s.y] 54))
        clear hh hown
        go_wp2_with (go_at_call 56; refine (containsI_any _ _ a _ _ (ha.below (by (repeat (first | exact Below.refl _ _ | assumption | (refine Below.alloc ?_ (by first | omega | (simp; done) | (simp; omega)) _) | (refine Below.setCell ?_ (by first | omega | (simp; done) | (simp; omega)) _) | (refine Below.drew ?_) | (refine Below.drewN ?_ _) | (refine Below.next (by assumption) ?_ (by first | omega | (simp; done) | (simp; omega))))))) hl2).mono ?_; rintro e w' ⟨he, rfl⟩; rw [HH.out] at he; subst he)
        go_roundw
        case rel =>
          have e3 := HST.out
          rw [HH.out, if_pos rfl] at e3
          exact ⟨k + 1, j, by omega, hj, by go_num, by rw [e3]; exact HO.out, Lib.hid (by rw [e3]; exact HJ.out), hb6.alloc (by omega) _⟩
        case measure => simp [intOf]; omega
      case false =>
        have HH := Lib.hid hh
        clear hh
        cases hm2 : has mv (k : Int)
        · have HI := Lib.hid (idx_none hm2)
          have HX := Lib.hid (cvAt_no (op := opens a n) hm2 HS.out)
          have HO := Lib.hid (hown.alloc (.cells #[.int .i64 s.x, .int .i64 s.y] 54))
          clear hm2 hown
          go_wp2_with (first | (go_at_call 56; refine (containsI_any _ _ a _ _ (ha.below (by (repeat (first | exact Below.refl _ _ | assumption | (refine Below.alloc ?_ (by first | omega | (simp; done) | (simp; omega)) _) | (refine Below.setCell ?_ (by first | omega | (simp; done) | (simp; omega)) _) | (refine Below.drew ?_) | (refine Below.drewN ?_ _) | (refine Below.next (by assumption) ?_ (by first | omega | (simp; done) | (simp; omega))))))) hl2).mono ?_; rintro e w' ⟨he, rfl⟩; rw [HH.out] at he; subst he) | (go_at_call 57; refine (indexI_any _ _ mv _ _ (hv.below (by (repeat (first | exact Below.refl _ _ | assumption | (refine Below.alloc ?_ (by first | omega | (simp; done) | (simp; omega)) _) | (refine Below.setCell ?_ (by first | omega | (simp; done) | (simp; omega)) _) | (refine Below.drew ?_) | (refine Below.drewN ?_ _) | (refine Below.next (by assumption) ?_ (by first | omega | (simp; done) | (simp; omega))))))) hl4).mono ?_; rintro e w' ⟨he, rfl⟩; rw [HI.out] at he; subst he) | (at_builtin; refine wpList_append_one _ rfl (.tmp 55) (.tmp 57) 27 rfl w4.heap.size 54 i0 (.agg #[.int .i64 0, .int .i64 0]) 2 16 Try.underlying27 hi hz0 hz1 hz2 rfl (by omega) _ _ _ rfl HO.out _ _ _ (congrArg (fun g => Value.slice (some ⟨g, 0, none⟩) 1 1) (by simp)) rfl rfl (by omega) (by omega) (by simp; omega) ?_; intro v' w7 hown' hb7))
          go_roundw
          case rel =>
            have e3 := HST.out
            rw [HH.out, if_neg (by simp), HX.out] at e3
            have e4 := HLN.out
            rw [e3] at e4
            have e5 := HJ.out
            simp at e4
            exact ⟨k + 1, j + 1, by omega, by omega, by go_num, by rw [e3, spots_snoc]; exact hown', Lib.hid (by rw [e3, List.length_append, e5]; rfl), (hb6.alloc (by omega) _).trans hb7⟩
          case measure => simp [intOf]; omega
        · obtain ⟨q, hq, hqm, _⟩ := idx_some hm2
          have hqm2 := (List.getElem?_eq_some_iff.1 hqm).1
          obtain ⟨y, hy⟩ := some_of_lt (L := opens a n) (k := q) (by have := HLE.out; omega)
          have hql : q < (opens a n).length := by have := HLE.out; omega
          obtain ⟨y, rfl, hyl⟩ := op_nat H1.out hy
          obtain ⟨u, hu⟩ := some_of_lt hyl
          obtain ⟨b0, off0, e0, e3⟩ := ((Mem.of_own HO4.out).below hb6).int hy
          obtain ⟨b2, off2, e5, e6, e7⟩ := (hm.below hb).spot hu
          obtain ⟨rfl, rfl⟩ : b = b2 ∧ off = off2 := by simpa using e5
          subst e0
          have hbl0 : b0 < wr.heap.size := World.block_lt_of_cell? wr _ e3
          have HI := Lib.hid hq
          have HX := Lib.hid (cvAt_yes (mv := mv) hq hm2 hy hu)
          have HO := Lib.hid (hown.alloc (.cells #[.int .i64 u.x, .int .i64 u.y] 54))
          have hy0 : (0 : Int) ≤ (y : Int) := by omega
          have hy1 : (y : Int) < (L.length : Int) := by omega
          clear hm2 hown hq hqm hy hu e5
          go_wp2_with (first | (go_at_call 56; refine (containsI_any _ _ a _ _ (ha.below (by (repeat (first | exact Below.refl _ _ | assumption | (refine Below.alloc ?_ (by first | omega | (simp; done) | (simp; omega)) _) | (refine Below.setCell ?_ (by first | omega | (simp; done) | (simp; omega)) _) | (refine Below.drew ?_) | (refine Below.drewN ?_ _) | (refine Below.next (by assumption) ?_ (by first | omega | (simp; done) | (simp; omega))))))) hl2).mono ?_; rintro e w' ⟨he, rfl⟩; rw [HH.out] at he; subst he) | (go_at_call 57; refine (indexI_any _ _ mv _ _ (hv.below (by (repeat (first | exact Below.refl _ _ | assumption | (refine Below.alloc ?_ (by first | omega | (simp; done) | (simp; omega)) _) | (refine Below.setCell ?_ (by first | omega | (simp; done) | (simp; omega)) _) | (refine Below.drew ?_) | (refine Below.drewN ?_ _) | (refine Below.next (by assumption) ?_ (by first | omega | (simp; done) | (simp; omega))))))) hl4).mono ?_; rintro e w' ⟨he, rfl⟩; rw [HI.out] at he; subst he) | (at_builtin; refine wpList_append_one _ rfl (.tmp 55) (.tmp 57) 27 rfl w4.heap.size 54 i0 (.agg #[.int .i64 0, .int .i64 0]) 2 16 Try.underlying27 hi hz0 hz1 hz2 rfl (by omega) _ _ _ rfl HO.out _ _ _ (congrArg (fun g => Value.slice (some ⟨g, 0, none⟩) 1 1) (by simp)) rfl rfl (by omega) (by omega) (by simp; omega) ?_; intro v' w7 hown' hb7))
          go_roundw
          case rel =>
            have e3 := HST.out
            rw [HH.out, if_neg (by simp), HX.out] at e3
            have e4 := HLN.out
            rw [e3] at e4
            have e5 := HJ.out
            simp at e4
            exact ⟨k + 1, j + 1, by omega, by omega, by go_num, by rw [e3, spots_snoc]; exact hown', Lib.hid (by rw [e3, List.length_append, e5]; rfl), (hb6.alloc (by omega) _).trans hb7⟩
          case measure => simp [intOf]; omega
    · go_wp2
      go_ret2
      have e1 : k = L.length := by omega
      subst e1
      exact RetSpots.some_ HV.out.2 HV.out.1 hown HJ.out (by omega) hb
end Go.Proofs.Ythppancpecjegaa
