/-
  Contracts: WorstAbsence.
-/
import Derived.Test.YthppancpecjegaaAcp
namespace Go.Proofs.Ythppancpecjegaa
open Go.RowKit
open Go.Sort (grow)

theorem Mem.one (w : World) (x : Int) (t : TypeId) : Mem (w.alloc (.cells #[.int .i64 x] t)) (some ⟨w.heap.size, 0, none⟩) (ints [x]) := fun _ => by
  refine ⟨w.heap.size, 0, rfl, fun j u hu => ?_⟩
  rw [Nat.zero_add, cell_of_row _ w.heap.size j #[.int .i64 x] t (0, 0) (heap_alloc_new w _)]
  simpa [ints] using hu

/-- What the program holds as the worst. -/
def waI (L : List Sp) (n : List Int) (k : Nat) : Int := if (waS L n k).2 < 0 then 0 else (waS L n k).1
theorem waI_of {L : List Sp} {n : List Int} {k : Nat} {b m : Int} (h : waS L n k = (b, m)) : waI L n k = if m < 0 then 0 else b := by rw [waI, h]

set_option maxRecDepth 100000 in
set_option maxHeartbeats 3200000 in
theorem spec_WorstAbsence_any (A : Option Addr) (c : Nat) (L : List Sp) (C : Option Addr) (f : Nat) (n : List Int) (w : World) (hm : Mem w A (spots L)) (hn : Mem w C (ints n)) (hl : L.length ≤ 1048576) (hl3 : n.length ≤ 1048576) (hlc : L.length ≤ c) : Calls Try.prog 8 #[.slice A L.length c, .slice C n.length f] w fun e w' => e = .returned (.tuple #[.int .i64 (wkV L n), .int .i64 (wkN L n), .bool (wkB L n)]) ∧ Below w.heap.size w w' := by
  cases h1 : abOk L [] n
  all_goals have H1 := Lib.hid h1
  · clear h1
    go_enter Try.func8, Try.ntmps8
    go_wp2_with (go_at_call 43; refine (abAsked_any _ _ L none 0 [] _ _ n _ (hm.below (by (repeat (first | exact Below.refl _ _ | assumption | (refine Below.alloc ?_ (by first | omega | (simp; done) | (simp; omega)) _) | (refine Below.setCell ?_ (by first | omega | (simp; done) | (simp; omega)) _) | (refine Below.drew ?_) | (refine Below.drewN ?_ _) | (refine Below.next (by assumption) ?_ (by first | omega | (simp; done) | (simp; omega))))))) (Mem.nil _ _) (hn.below (by (repeat (first | exact Below.refl _ _ | assumption | (refine Below.alloc ?_ (by first | omega | (simp; done) | (simp; omega)) _) | (refine Below.setCell ?_ (by first | omega | (simp; done) | (simp; omega)) _) | (refine Below.drew ?_) | (refine Below.drewN ?_ _) | (refine Below.next (by assumption) ?_ (by first | omega | (simp; done) | (simp; omega))))))) hl (by simp) hl3 hlc).mono ?_; rintro e w' ⟨he, hq⟩; rw [H1.out] at he; subst he; obtain ⟨hz, hc, hf⟩ := bel hq)
    go_ret3
    have hB : wkB L n = false := by rw [wkB, H1.out]; rfl
    exact ⟨ret_three (by rw [wkV, hB]; rfl) (by rw [wkN, hB]; rfl) hB.symm, by (repeat (first | exact Below.refl _ _ | assumption | (refine Below.alloc ?_ (by first | omega | (simp; done) | (simp; omega)) _) | (refine Below.setCell ?_ (by first | omega | (simp; done) | (simp; omega)) _) | (refine Below.drew ?_) | (refine Below.drewN ?_ _) | (refine Below.next (by assumption) ?_ (by first | omega | (simp; done) | (simp; omega)))))⟩
  have hlen := (ab_lens h1).1
  have HSG := Lib.hid (fun k hk => waS_sign (L := L) (n := n) h1 k hk)
  have HON := Lib.hid (fun i hi => one_ok (L := L) (n := n) (i := i) h1 hi)
  clear h1
  go_enter Try.func8, Try.ntmps8
  go_wp2_with (go_at_call 43; refine (abAsked_any _ _ L none 0 [] _ _ n _ (hm.below (by (repeat (first | exact Below.refl _ _ | assumption | (refine Below.alloc ?_ (by first | omega | (simp; done) | (simp; omega)) _) | (refine Below.setCell ?_ (by first | omega | (simp; done) | (simp; omega)) _) | (refine Below.drew ?_) | (refine Below.drewN ?_ _) | (refine Below.next (by assumption) ?_ (by first | omega | (simp; done) | (simp; omega))))))) (Mem.nil _ _) (hn.below (by (repeat (first | exact Below.refl _ _ | assumption | (refine Below.alloc ?_ (by first | omega | (simp; done) | (simp; omega)) _) | (refine Below.setCell ?_ (by first | omega | (simp; done) | (simp; omega)) _) | (refine Below.drew ?_) | (refine Below.drewN ?_ _) | (refine Below.next (by assumption) ?_ (by first | omega | (simp; done) | (simp; omega))))))) hl (by simp) hl3 hlc).mono ?_; rintro e w1 ⟨he, hq⟩; rw [H1.out] at he; subst he)
  have HB1 := Lib.hid (show Below w.heap.size w w1 by (repeat (first | exact Below.refl _ _ | assumption | (refine Below.alloc ?_ (by first | omega | (simp; done) | (simp; omega)) _) | (refine Below.setCell ?_ (by first | omega | (simp; done) | (simp; omega)) _) | (refine Below.drew ?_) | (refine Below.drewN ?_ _) | (refine Below.next (by assumption) ?_ (by first | omega | (simp; done) | (simp; omega))))))
  have zz := HB1.out.size
  have HM := Lib.hid (hm.below HB1.out)
  have HN := Lib.hid (hn.below HB1.out)
  clear hq hm hn
  go_loopw [7, 8, 9, 10, 11, 12, 19] (fun bv mv _ _ _ _ iv wr => ∃ k : Nat, k ≤ L.length ∧ iv = .int .i64 k ∧ bv = .int .i64 (waS L n k).1 ∧ mv = .int .i64 (waS L n k).2 ∧ Below w1.heap.size w1 wr) (fun _ _ _ _ _ _ iv _ => L.length - (intOf iv).toNat)
  case atStart => exact ⟨0, by omega, rfl, rfl, rfl, Below.refl _ _⟩
  case round =>
    obtain ⟨k, hk, rfl, rfl, rfl, hb⟩ := hrel
    have HB2 := Lib.hid hb
    have zz2 := hb.size
    clear hb
    by_cases hkl : k < L.length
    · have hba : Below w1.heap.size w1 (wr.alloc (.cells #[.int .i64 (k : Int)] 3)) := HB2.out.alloc zz2 _
      have HBA := Lib.hid hba
      have HST := Lib.hid (show waS L n (k + 1) = if lcA L [(k : Int)] n = true ∧ (waS L n k).2 < lcN L [(k : Int)] n then ((k : Int), lcN L [(k : Int)] n) else waS L n k from rfl)
      have hnn := lcN_nonneg (HON.out k hkl)
      have hsg := HSG.out k hk
      clear hba
      go_wp2_with fail
      refine (abLeast_any _ _ L _ _ [(k : Int)] _ _ n _ (HM.out.below HBA.out) (Mem.one _ _ _) (HN.out.below HBA.out) hl (by simp) hl3 (HON.out k hkl)).mono ?_
      rintro e w2 ⟨A', c', rfl, ho, hq2⟩
      have HB3 := Lib.hid (HBA.out.trans (hq2.mono (by simp; omega)))
      clear ho hq2
      obtain ⟨s, hs⟩ : ∃ s, lcN L [(k : Int)] n = s := ⟨_, rfl⟩
      rw [hs] at HST hnn ⊢
      obtain ⟨q, hqq⟩ : ∃ q, waS L n k = q := ⟨_, rfl⟩
      obtain ⟨bb, mm⟩ := q
      skip
      rw [hqq] at HST hsg ⊢
      simp only at HST hsg ⊢
      cases hA : lcA L [(k : Int)] n
      · have HA := Lib.hid (show waS L n (k + 1) = (bb, mm) by rw [HST.out, hA, if_neg (by simp)])
        clear hs hqq hA
        go_wp2
        go_roundw
        case rel => exact ⟨k + 1, by omega, by go_num, by rw [HA.out], by rw [HA.out], HB3.out⟩
        case measure => simp [intOf]; omega
      · by_cases hlt : mm < s
        · have HA := Lib.hid (show waS L n (k + 1) = ((k : Int), s) by rw [HST.out, hA, if_pos ⟨rfl, hlt⟩])
          clear hs hqq hA
          go_wp2
          go_roundw
          case rel => exact ⟨k + 1, by omega, by go_num, by rw [HA.out], by rw [HA.out], HB3.out⟩
          case measure => simp [intOf]; omega
        · have HA := Lib.hid (show waS L n (k + 1) = (bb, mm) by rw [HST.out, hA, if_neg (fun h => hlt h.2)])
          clear hs hqq hA
          go_wp2
          go_roundw
          case rel => exact ⟨k + 1, by omega, by go_num, by rw [HA.out], by rw [HA.out], HB3.out⟩
          case measure => simp [intOf]; omega
    · obtain rfl : k = L.length := by omega
      have hsg := HSG.out L.length (Nat.le_refl _)
      have HBK := Lib.hid (show wkB L n = decide (0 ≤ (waS L n L.length).1) by rw [wkB, H1.out]; rfl)
      have HVK := Lib.hid (show wkV L n = if wkB L n then (waS L n L.length).1 else 0 from rfl)
      have HNK := Lib.hid (show wkN L n = if wkB L n then (waS L n L.length).2 else 0 from rfl)
      obtain ⟨q, hqq⟩ : ∃ q, waS L n L.length = q := ⟨_, rfl⟩
      obtain ⟨bb, mm⟩ := q
      skip
      rw [hqq] at HBK HVK HNK hsg ⊢
      simp only at HBK HVK HNK hsg ⊢
      clear hqq
      rcases hsg with ⟨g1, g2⟩ | ⟨g1, g2⟩
      · have HB := Lib.hid (show wkB L n = false by rw [HBK.out]; simpa using g1)
        have hx : bb < 0 := g1
        go_wp2
        go_ret3
        exact ⟨ret_three (by rw [HVK.out, HB.out]; rfl) (by rw [HNK.out, HB.out]; rfl) HB.out.symm, HB1.out.trans (HB2.out.mono zz)⟩
      · have HB := Lib.hid (show wkB L n = true by rw [HBK.out]; simpa using g1)
        have hx : ¬ bb < 0 := by omega
        go_wp2
        go_ret3
        exact ⟨ret_three (by rw [HVK.out, HB.out]; rfl) (by rw [HNK.out, HB.out]; rfl) HB.out.symm, HB1.out.trans (HB2.out.mono zz)⟩

set_option maxRecDepth 100000 in
set_option maxHeartbeats 3200000 in
theorem impl_WorstAbsence_any (A : Option Addr) (c : Nat) (L : List Sp) (C : Option Addr) (f : Nat) (n : List Int) (w : World) (hm : Mem w A (spots L)) (hn : Mem w C (ints n)) (hl : L.length ≤ 1048576) (hl3 : n.length ≤ 1048576) (hlc : L.length ≤ c) : Calls Try.prog 11 #[.slice A L.length c, .slice C n.length f] w fun e w' => e = .returned (.tuple #[.int .i64 (wkV L n), .int .i64 (wkN L n), .bool (wkB L n)]) ∧ Below w.heap.size w w' := by
  cases h1 : abOk L [] n
  all_goals have H1 := Lib.hid h1
  · clear h1
    go_enter Try.func11, Try.ntmps11
    go_wp2_with (go_at_call 40; refine (IsAbsence_any _ _ L none 0 [] _ _ n _ (hm.below (by (repeat (first | exact Below.refl _ _ | assumption | (refine Below.alloc ?_ (by first | omega | (simp; done) | (simp; omega)) _) | (refine Below.setCell ?_ (by first | omega | (simp; done) | (simp; omega)) _) | (refine Below.drew ?_) | (refine Below.drewN ?_ _) | (refine Below.next (by assumption) ?_ (by first | omega | (simp; done) | (simp; omega))))))) (Mem.nil _ _) (hn.below (by (repeat (first | exact Below.refl _ _ | assumption | (refine Below.alloc ?_ (by first | omega | (simp; done) | (simp; omega)) _) | (refine Below.setCell ?_ (by first | omega | (simp; done) | (simp; omega)) _) | (refine Below.drew ?_) | (refine Below.drewN ?_ _) | (refine Below.next (by assumption) ?_ (by first | omega | (simp; done) | (simp; omega))))))) hl (by simp) hl3 hlc).mono ?_; rintro e w' ⟨he, hq⟩; rw [H1.out] at he; subst he; obtain ⟨hz, hc, hf⟩ := bel hq)
    go_ret3
    have hB : wkB L n = false := by rw [wkB, H1.out]; rfl
    exact ⟨ret_three (by rw [wkV, hB]; rfl) (by rw [wkN, hB]; rfl) hB.symm, by (repeat (first | exact Below.refl _ _ | assumption | (refine Below.alloc ?_ (by first | omega | (simp; done) | (simp; omega)) _) | (refine Below.setCell ?_ (by first | omega | (simp; done) | (simp; omega)) _) | (refine Below.drew ?_) | (refine Below.drewN ?_ _) | (refine Below.next (by assumption) ?_ (by first | omega | (simp; done) | (simp; omega)))))⟩
  have hlen := (ab_lens h1).1
  have HSG := Lib.hid (fun k hk => waS_sign (L := L) (n := n) h1 k hk)
  have HON := Lib.hid (fun i hi => one_ok (L := L) (n := n) (i := i) h1 hi)
  clear h1
  go_enter Try.func11, Try.ntmps11
  go_wp2_with (go_at_call 40; refine (IsAbsence_any _ _ L none 0 [] _ _ n _ (hm.below (by (repeat (first | exact Below.refl _ _ | assumption | (refine Below.alloc ?_ (by first | omega | (simp; done) | (simp; omega)) _) | (refine Below.setCell ?_ (by first | omega | (simp; done) | (simp; omega)) _) | (refine Below.drew ?_) | (refine Below.drewN ?_ _) | (refine Below.next (by assumption) ?_ (by first | omega | (simp; done) | (simp; omega))))))) (Mem.nil _ _) (hn.below (by (repeat (first | exact Below.refl _ _ | assumption | (refine Below.alloc ?_ (by first | omega | (simp; done) | (simp; omega)) _) | (refine Below.setCell ?_ (by first | omega | (simp; done) | (simp; omega)) _) | (refine Below.drew ?_) | (refine Below.drewN ?_ _) | (refine Below.next (by assumption) ?_ (by first | omega | (simp; done) | (simp; omega))))))) hl (by simp) hl3 hlc).mono ?_; rintro e w1 ⟨he, hq⟩; rw [H1.out] at he; subst he)
  have HB1 := Lib.hid (show Below w.heap.size w w1 by (repeat (first | exact Below.refl _ _ | assumption | (refine Below.alloc ?_ (by first | omega | (simp; done) | (simp; omega)) _) | (refine Below.setCell ?_ (by first | omega | (simp; done) | (simp; omega)) _) | (refine Below.drew ?_) | (refine Below.drewN ?_ _) | (refine Below.next (by assumption) ?_ (by first | omega | (simp; done) | (simp; omega))))))
  have zz := HB1.out.size
  have HM := Lib.hid (hm.below HB1.out)
  have HN := Lib.hid (hn.below HB1.out)
  clear hq hm hn
  go_loopw [7, 8, 9, 10, 11, 12, 19] (fun bv mv _ _ _ _ iv wr => ∃ k : Nat, k ≤ L.length ∧ iv = .int .i64 k ∧ bv = .int .i64 (waI L n k) ∧ mv = .int .i64 (waS L n k).2 ∧ Below w1.heap.size w1 wr) (fun _ _ _ _ _ _ iv _ => L.length - (intOf iv).toNat)
  case atStart => exact ⟨0, by omega, rfl, rfl, rfl, Below.refl _ _⟩
  case round =>
    obtain ⟨k, hk, rfl, rfl, rfl, hb⟩ := hrel
    have HB2 := Lib.hid hb
    have zz2 := hb.size
    clear hb
    by_cases hkl : k < L.length
    · have hba : Below w1.heap.size w1 (wr.alloc (.cells #[.int .i64 (k : Int)] 3)) := HB2.out.alloc zz2 _
      have HBA := Lib.hid hba
      have HST := Lib.hid (show waS L n (k + 1) = if lcA L [(k : Int)] n = true ∧ (waS L n k).2 < lcN L [(k : Int)] n then ((k : Int), lcN L [(k : Int)] n) else waS L n k from rfl)
      have hnn := lcN_nonneg (HON.out k hkl)
      have hsg := HSG.out k hk
      clear hba
      go_wp2_with fail
      refine (leastCover_any _ _ L _ _ [(k : Int)] _ _ n _ (HM.out.below HBA.out) (Mem.one _ _ _) (HN.out.below HBA.out) hl (by simp) hl3 (HON.out k hkl)).mono ?_
      rintro e w2 ⟨A', c', rfl, ho, hq2⟩
      have HB3 := Lib.hid (HBA.out.trans (hq2.mono (by simp; omega)))
      clear ho hq2
      obtain ⟨s, hs⟩ : ∃ s, lcN L [(k : Int)] n = s := ⟨_, rfl⟩
      rw [hs] at HST hnn ⊢
      obtain ⟨q, hqq⟩ : ∃ q, waS L n k = q := ⟨_, rfl⟩
      obtain ⟨bb, mm⟩ := q
      have HWI := Lib.hid (waI_of hqq)
      obtain ⟨vi, hvi⟩ : ∃ v, waI L n k = v := ⟨_, rfl⟩
      rw [hvi] at HWI ⊢
      clear hvi
      rw [hqq] at HST hsg ⊢
      simp only at HST hsg ⊢
      cases hA : lcA L [(k : Int)] n
      · have HA := Lib.hid (show waS L n (k + 1) = (bb, mm) by rw [HST.out, hA, if_neg (by simp)])
        clear hs hqq hA
        go_wp2
        go_roundw
        case rel => exact ⟨k + 1, by omega, by go_num, by rw [waI_of HA.out, HWI.out], by rw [HA.out], HB3.out⟩
        case measure => simp [intOf]; omega
      · by_cases hlt : mm < s
        · have HA := Lib.hid (show waS L n (k + 1) = ((k : Int), s) by rw [HST.out, hA, if_pos ⟨rfl, hlt⟩])
          clear hs hqq hA
          go_wp2
          go_roundw
          case rel => exact ⟨k + 1, by omega, by go_num, by rw [waI_of HA.out, if_neg (by omega)], by rw [HA.out], HB3.out⟩
          case measure => simp [intOf]; omega
        · have HA := Lib.hid (show waS L n (k + 1) = (bb, mm) by rw [HST.out, hA, if_neg (fun h => hlt h.2)])
          clear hs hqq hA
          go_wp2
          go_roundw
          case rel => exact ⟨k + 1, by omega, by go_num, by rw [waI_of HA.out, HWI.out], by rw [HA.out], HB3.out⟩
          case measure => simp [intOf]; omega
    · obtain rfl : k = L.length := by omega
      have hsg := HSG.out L.length (Nat.le_refl _)
      have HBK := Lib.hid (show wkB L n = decide (0 ≤ (waS L n L.length).1) by rw [wkB, H1.out]; rfl)
      have HVK := Lib.hid (show wkV L n = if wkB L n then (waS L n L.length).1 else 0 from rfl)
      have HNK := Lib.hid (show wkN L n = if wkB L n then (waS L n L.length).2 else 0 from rfl)
      obtain ⟨q, hqq⟩ : ∃ q, waS L n L.length = q := ⟨_, rfl⟩
      obtain ⟨bb, mm⟩ := q
      have HWI := Lib.hid (waI_of hqq)
      obtain ⟨vi, hvi⟩ : ∃ v, waI L n L.length = v := ⟨_, rfl⟩
      rw [hvi] at HWI ⊢
      clear hvi
      rw [hqq] at HBK HVK HNK hsg ⊢
      simp only at HBK HVK HNK hsg ⊢
      clear hqq
      rcases hsg with ⟨g1, g2⟩ | ⟨g1, g2⟩
      · have HB := Lib.hid (show wkB L n = false by rw [HBK.out]; simpa using g1)
        subst g2
        go_wp2
        go_ret3
        exact ⟨ret_three (by rw [HVK.out, HB.out]; rfl) (by rw [HNK.out, HB.out]; rfl) HB.out.symm, HB1.out.trans (HB2.out.mono zz)⟩
      · have HB := Lib.hid (show wkB L n = true by rw [HBK.out]; simpa using g1)
        have hx : ¬ mm < 0 := by omega
        have hvb : vi = bb := by rw [HWI.out, if_neg hx]
        subst hvb
        go_wp2
        go_ret3
        exact ⟨ret_three (by rw [HVK.out, HB.out]; rfl) (by rw [HNK.out, HB.out]; rfl) HB.out.symm, HB1.out.trans (HB2.out.mono zz)⟩

end Go.Proofs.Ythppancpecjegaa
