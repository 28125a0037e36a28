/-
  Contracts: ShiftOffsets, the program's and the reference's.
-/
import Derived.Test.YtdipmjflgjlfeaaOff
import Derived.Test.YtdipmjflgjlfeaaSnde
namespace Go.Proofs.Ytdipmjflgjlfeaa
open Go.RowKit Go.Sort

def shiftd (L : List Int) (b : Int) : List Int := L.map (· + b)
theorem shiftd_len (L : List Int) (b : Int) : (shiftd L b).length = L.length := by simp [shiftd]
theorem shiftd_take {L : List Int} {b : Int} {k : Nat} {s : Int} (h : L[k]? = some s) : (shiftd L b).take (k + 1) = (shiftd L b).take k ++ [s + b] := by
  rw [List.take_add_one]
  simp [shiftd, h]
def shOk (L : List Int) (b : Int) : Bool := (offOk L && inR b (-2000) 2000) && offOk (shiftd L b)
def shV (L : List Int) (b : Int) : List Int := if shOk L b then shiftd L b else []
theorem offOk_lenB {L : List Int} (h : offOk L = true) : L.all isOff = true ∧ 1 ≤ L.length ∧ L.length ≤ 40 := by
  simp only [offOk, Bool.and_eq_true] at h
  have := inR_iff.1 h.2
  exact ⟨h.1, by omega, by omega⟩

set_option maxHeartbeats 800000 in
set_option maxRecDepth 100000 in
theorem spec_ShiftOffsets_any (A : Option Addr) (c : Nat) (L : List Int) (b : Int) (w : World) (hm : Mem w A (ints L)) (hl : L.length ≤ 1048576) : Calls Try.prog 54 #[.slice A L.length c, .int .i64 b] w
    (RetInts w (shV L b) (shOk L b)) := by
  cases h1 : offOk L
  · go_enter Try.func54, Try.ntmps54
    go_wp2_with (go_at_call 102; refine (lsOffsets_any _ _ _ _ (by first | exact Mem.below (by assumption) (by (repeat (first | exact Below.refl _ _ | assumption | (refine Below.alloc ?_ (by first | omega | (simp; done) | (simp; omega)) _) | (refine Below.setCell ?_ (by first | omega | (simp; done) | (simp; omega)) _) | (refine Below.drew ?_) | (refine Below.drewN ?_ _) | (refine Below.next (by assumption) ?_ (by first | omega | (simp; done) | (simp; omega)))))) | exact Mem.below (Mem.of_own (by assumption)) (by (repeat (first | exact Below.refl _ _ | assumption | (refine Below.alloc ?_ (by first | omega | (simp; done) | (simp; omega)) _) | (refine Below.setCell ?_ (by first | omega | (simp; done) | (simp; omega)) _) | (refine Below.drew ?_) | (refine Below.drewN ?_ _) | (refine Below.next (by assumption) ?_ (by first | omega | (simp; done) | (simp; omega))))))) (by omega)).mono ?_; rintro e w' ⟨rfl, rfl⟩)
    go_ret2
    exact RetInts.none_ (by simp [shV, shOk, h1]) (by simp [shOk, h1]) (by (repeat (first | exact Below.refl _ _ | assumption | (refine Below.alloc ?_ (by first | omega | (simp; done) | (simp; omega)) _) | (refine Below.setCell ?_ (by first | omega | (simp; done) | (simp; omega)) _) | (refine Below.drew ?_) | (refine Below.drewN ?_ _) | (refine Below.next (by assumption) ?_ (by first | omega | (simp; done) | (simp; omega))))))
  cases h2 : inR b (-2000) 2000
  · go_enter Try.func54, Try.ntmps54
    go_wp2_with (first | (go_at_call 102; refine (lsOffsets_any _ _ _ _ (by first | exact Mem.below (by assumption) (by (repeat (first | exact Below.refl _ _ | assumption | (refine Below.alloc ?_ (by first | omega | (simp; done) | (simp; omega)) _) | (refine Below.setCell ?_ (by first | omega | (simp; done) | (simp; omega)) _) | (refine Below.drew ?_) | (refine Below.drewN ?_ _) | (refine Below.next (by assumption) ?_ (by first | omega | (simp; done) | (simp; omega)))))) | exact Mem.below (Mem.of_own (by assumption)) (by (repeat (first | exact Below.refl _ _ | assumption | (refine Below.alloc ?_ (by first | omega | (simp; done) | (simp; omega)) _) | (refine Below.setCell ?_ (by first | omega | (simp; done) | (simp; omega)) _) | (refine Below.drew ?_) | (refine Below.drewN ?_ _) | (refine Below.next (by assumption) ?_ (by first | omega | (simp; done) | (simp; omega))))))) (by omega)).mono ?_; rintro e w' ⟨rfl, rfl⟩) | (go_at_call 103; refine (l1In_any _ _ _ _).mono ?_; rintro e w' ⟨rfl, rfl⟩))
    go_ret2
    exact RetInts.none_ (by simp [shV, shOk, h2]) (by simp [shOk, h2]) (by (repeat (first | exact Below.refl _ _ | assumption | (refine Below.alloc ?_ (by first | omega | (simp; done) | (simp; omega)) _) | (refine Below.setCell ?_ (by first | omega | (simp; done) | (simp; omega)) _) | (refine Below.drew ?_) | (refine Below.drewN ?_ _) | (refine Below.next (by assumption) ?_ (by first | omega | (simp; done) | (simp; omega))))))
  obtain ⟨g1, g2, g3⟩ := offOk_lenB h1
  have b2 := inR_iff.1 h2
  have HE : Hid (shOk L b = offOk (shiftd L b)) := Lib.hid (by simp [shOk, h1, h2])
  have HG := Lib.hid g1
  obtain ⟨i0, hi, hz0, hz1, hz2⟩ := info_parts info_int
  go_enter Try.func54, Try.ntmps54
  go_wp2_with (first | (go_at_call 102; refine (lsOffsets_any _ _ _ _ (by first | exact Mem.below (by assumption) (by (repeat (first | exact Below.refl _ _ | assumption | (refine Below.alloc ?_ (by first | omega | (simp; done) | (simp; omega)) _) | (refine Below.setCell ?_ (by first | omega | (simp; done) | (simp; omega)) _) | (refine Below.drew ?_) | (refine Below.drewN ?_ _) | (refine Below.next (by assumption) ?_ (by first | omega | (simp; done) | (simp; omega)))))) | exact Mem.below (Mem.of_own (by assumption)) (by (repeat (first | exact Below.refl _ _ | assumption | (refine Below.alloc ?_ (by first | omega | (simp; done) | (simp; omega)) _) | (refine Below.setCell ?_ (by first | omega | (simp; done) | (simp; omega)) _) | (refine Below.drew ?_) | (refine Below.drewN ?_ _) | (refine Below.next (by assumption) ?_ (by first | omega | (simp; done) | (simp; omega))))))) (by omega)).mono ?_; rintro e w' ⟨rfl, rfl⟩) | (go_at_call 103; refine (l1In_any _ _ _ _).mono ?_; rintro e w' ⟨rfl, rfl⟩))
  clear g1 h1 h2
  go_loopw [6, 8, 19] (fun v _ i wr => ∃ k : Nat, k ≤ L.length ∧ i = .int .i64 k ∧ wr.ownsRow w.heap.size 3 1 v k (ints ((shiftd L b).take k)) ∧ Below w.heap.size w wr) (fun _ _ i _ => L.length - (intOf i).toNat)
  case atStart => exact ⟨0, by omega, rfl, World.ownsRow_nil _ _ _ _, Below.refl _ _⟩
  case round =>
    obtain ⟨k, hk, rfl, hown, hb⟩ := hrel
    have hsz := hb.size
    by_cases hlt : k < L.length
    · obtain ⟨s, hs⟩ := some_of_lt hlt
      obtain ⟨bb, off, rfl, e1⟩ := (hm.below hb).int hs
      have hsb := inR_iff.1 (show inR s (-2000) 2000 = true from all_at HG.out hs)
      have HS := Lib.hid (shiftd_take (b := b) hs)
      have HO := Lib.hid hown
      clear hs hown
      go_wp2_with (at_builtin; refine wpList_append_one _ rfl (.tmp 23) (.tmp 27) 35 rfl w.heap.size 3 i0 (.int .i64 0) 1 8 Try.underlying35 hi hz0 hz1 hz2 rfl (by omega) _ _ _ rfl HO.out _ _ _ rfl rfl rfl (by omega) (by omega) (by omega) ?_; intro v' w2 hown' hb2)
      go_roundw
      case rel => exact ⟨k + 1, by omega, by go_num, by rw [HS.out, ints_snoc]; exact hown', hb.trans hb2⟩
      case measure => simp [intOf]; omega
    · have e1 : k = (shiftd L b).length := by rw [shiftd_len]; omega
      subst e1
      rw [List.take_length] at hown
      obtain ⟨A', c', rfl⟩ := own_form hown
      have hl2 : (shiftd L b).length ≤ 1048576 := by rw [shiftd_len]; omega
      cases h3 : offOk (shiftd L b)
      · go_wp2_with (go_at_call 102; refine (lsOffsets_any _ _ _ _ (by first | exact Mem.below (by assumption) (by (repeat (first | exact Below.refl _ _ | assumption | (refine Below.alloc ?_ (by first | omega | (simp; done) | (simp; omega)) _) | (refine Below.setCell ?_ (by first | omega | (simp; done) | (simp; omega)) _) | (refine Below.drew ?_) | (refine Below.drewN ?_ _) | (refine Below.next (by assumption) ?_ (by first | omega | (simp; done) | (simp; omega)))))) | exact Mem.below (Mem.of_own (by assumption)) (by (repeat (first | exact Below.refl _ _ | assumption | (refine Below.alloc ?_ (by first | omega | (simp; done) | (simp; omega)) _) | (refine Below.setCell ?_ (by first | omega | (simp; done) | (simp; omega)) _) | (refine Below.drew ?_) | (refine Below.drewN ?_ _) | (refine Below.next (by assumption) ?_ (by first | omega | (simp; done) | (simp; omega))))))) (by omega)).mono ?_; rintro e w' ⟨rfl, rfl⟩)
        go_ret2
        exact RetInts.none_ (by simp [shV, HE.out, h3]) (by rw [HE.out, h3]) hb
      · go_wp2_with (go_at_call 102; refine (lsOffsets_any _ _ _ _ (by first | exact Mem.below (by assumption) (by (repeat (first | exact Below.refl _ _ | assumption | (refine Below.alloc ?_ (by first | omega | (simp; done) | (simp; omega)) _) | (refine Below.setCell ?_ (by first | omega | (simp; done) | (simp; omega)) _) | (refine Below.drew ?_) | (refine Below.drewN ?_ _) | (refine Below.next (by assumption) ?_ (by first | omega | (simp; done) | (simp; omega)))))) | exact Mem.below (Mem.of_own (by assumption)) (by (repeat (first | exact Below.refl _ _ | assumption | (refine Below.alloc ?_ (by first | omega | (simp; done) | (simp; omega)) _) | (refine Below.setCell ?_ (by first | omega | (simp; done) | (simp; omega)) _) | (refine Below.drew ?_) | (refine Below.drewN ?_ _) | (refine Below.next (by assumption) ?_ (by first | omega | (simp; done) | (simp; omega))))))) (by omega)).mono ?_; rintro e w' ⟨rfl, rfl⟩)
        go_ret2
        exact RetInts.some_ (by rw [HE.out, h3]) (by simp [shV, HE.out, h3]) hown rfl (by omega) hb

set_option maxHeartbeats 800000 in
set_option maxRecDepth 100000 in
theorem impl_ShiftOffsets_any (A : Option Addr) (c : Nat) (L : List Int) (b : Int) (w : World) (hm : Mem w A (ints L)) (hl : L.length ≤ 1048576) : Calls Try.prog 53 #[.slice A L.length c, .int .i64 b] w
    (RetInts w (shV L b) (shOk L b)) := by
  cases h1 : offOk L
  · go_enter Try.func53, Try.ntmps53
    go_wp2_with (go_at_call 50; refine (impl_AreOffsets_any _ _ _ _ (by first | exact Mem.below (by assumption) (by (repeat (first | exact Below.refl _ _ | assumption | (refine Below.alloc ?_ (by first | omega | (simp; done) | (simp; omega)) _) | (refine Below.setCell ?_ (by first | omega | (simp; done) | (simp; omega)) _) | (refine Below.drew ?_) | (refine Below.drewN ?_ _) | (refine Below.next (by assumption) ?_ (by first | omega | (simp; done) | (simp; omega)))))) | exact Mem.below (Mem.of_own (by assumption)) (by (repeat (first | exact Below.refl _ _ | assumption | (refine Below.alloc ?_ (by first | omega | (simp; done) | (simp; omega)) _) | (refine Below.setCell ?_ (by first | omega | (simp; done) | (simp; omega)) _) | (refine Below.drew ?_) | (refine Below.drewN ?_ _) | (refine Below.next (by assumption) ?_ (by first | omega | (simp; done) | (simp; omega))))))) (by omega)).mono ?_; rintro e w' ⟨rfl, rfl⟩)
    go_ret2
    exact RetInts.none_ (by simp [shV, shOk, h1]) (by simp [shOk, h1]) (by (repeat (first | exact Below.refl _ _ | assumption | (refine Below.alloc ?_ (by first | omega | (simp; done) | (simp; omega)) _) | (refine Below.setCell ?_ (by first | omega | (simp; done) | (simp; omega)) _) | (refine Below.drew ?_) | (refine Below.drewN ?_ _) | (refine Below.next (by assumption) ?_ (by first | omega | (simp; done) | (simp; omega))))))
  cases h2 : inR b (-2000) 2000
  · go_enter Try.func53, Try.ntmps53
    go_wp2_with (first | (go_at_call 50; refine (impl_AreOffsets_any _ _ _ _ (by first | exact Mem.below (by assumption) (by (repeat (first | exact Below.refl _ _ | assumption | (refine Below.alloc ?_ (by first | omega | (simp; done) | (simp; omega)) _) | (refine Below.setCell ?_ (by first | omega | (simp; done) | (simp; omega)) _) | (refine Below.drew ?_) | (refine Below.drewN ?_ _) | (refine Below.next (by assumption) ?_ (by first | omega | (simp; done) | (simp; omega)))))) | exact Mem.below (Mem.of_own (by assumption)) (by (repeat (first | exact Below.refl _ _ | assumption | (refine Below.alloc ?_ (by first | omega | (simp; done) | (simp; omega)) _) | (refine Below.setCell ?_ (by first | omega | (simp; done) | (simp; omega)) _) | (refine Below.drew ?_) | (refine Below.drewN ?_ _) | (refine Below.next (by assumption) ?_ (by first | omega | (simp; done) | (simp; omega))))))) (by omega)).mono ?_; rintro e w' ⟨rfl, rfl⟩) | (go_at_call 78; refine (within_any _ _ _ _).mono ?_; rintro e w' ⟨rfl, rfl⟩))
    go_ret2
    exact RetInts.none_ (by simp [shV, shOk, h2]) (by simp [shOk, h2]) (by (repeat (first | exact Below.refl _ _ | assumption | (refine Below.alloc ?_ (by first | omega | (simp; done) | (simp; omega)) _) | (refine Below.setCell ?_ (by first | omega | (simp; done) | (simp; omega)) _) | (refine Below.drew ?_) | (refine Below.drewN ?_ _) | (refine Below.next (by assumption) ?_ (by first | omega | (simp; done) | (simp; omega))))))
  obtain ⟨g1, g2, g3⟩ := offOk_lenB h1
  have b2 := inR_iff.1 h2
  have HE : Hid (shOk L b = offOk (shiftd L b)) := Lib.hid (by simp [shOk, h1, h2])
  have HG := Lib.hid g1
  obtain ⟨i0, hi, hz0, hz1, hz2⟩ := info_parts info_int
  go_enter Try.func53, Try.ntmps53
  go_wp2_with (first | (go_at_call 50; refine (impl_AreOffsets_any _ _ _ _ (by first | exact Mem.below (by assumption) (by (repeat (first | exact Below.refl _ _ | assumption | (refine Below.alloc ?_ (by first | omega | (simp; done) | (simp; omega)) _) | (refine Below.setCell ?_ (by first | omega | (simp; done) | (simp; omega)) _) | (refine Below.drew ?_) | (refine Below.drewN ?_ _) | (refine Below.next (by assumption) ?_ (by first | omega | (simp; done) | (simp; omega)))))) | exact Mem.below (Mem.of_own (by assumption)) (by (repeat (first | exact Below.refl _ _ | assumption | (refine Below.alloc ?_ (by first | omega | (simp; done) | (simp; omega)) _) | (refine Below.setCell ?_ (by first | omega | (simp; done) | (simp; omega)) _) | (refine Below.drew ?_) | (refine Below.drewN ?_ _) | (refine Below.next (by assumption) ?_ (by first | omega | (simp; done) | (simp; omega))))))) (by omega)).mono ?_; rintro e w' ⟨rfl, rfl⟩) | (go_at_call 78; refine (within_any _ _ _ _).mono ?_; rintro e w' ⟨rfl, rfl⟩))
  clear g1 h1 h2
  go_loopw [6, 8, 20] (fun v _ i wr => ∃ k : Nat, k ≤ L.length ∧ i = .int .i64 k ∧ wr.ownsRow w.heap.size 3 1 v k (ints ((shiftd L b).take k)) ∧ Below w.heap.size w wr) (fun _ _ i _ => L.length - (intOf i).toNat)
  case atStart => exact ⟨0, by omega, rfl, own_empty _ _ rfl (by omega) rfl, by (repeat (first | exact Below.refl _ _ | assumption | (refine Below.alloc ?_ (by first | omega | (simp; done) | (simp; omega)) _) | (refine Below.setCell ?_ (by first | omega | (simp; done) | (simp; omega)) _) | (refine Below.drew ?_) | (refine Below.drewN ?_ _) | (refine Below.next (by assumption) ?_ (by first | omega | (simp; done) | (simp; omega)))))⟩
  case round =>
    obtain ⟨k, hk, rfl, hown, hb⟩ := hrel
    have hsz := hb.size
    by_cases hlt : k < L.length
    · obtain ⟨s, hs⟩ := some_of_lt hlt
      obtain ⟨bb, off, rfl, e1⟩ := (hm.below hb).int hs
      have hsb := inR_iff.1 (show inR s (-2000) 2000 = true from all_at HG.out hs)
      have HS := Lib.hid (shiftd_take (b := b) hs)
      have HO := Lib.hid hown
      clear hs hown
      go_wp2_with (at_builtin; refine wpList_append_one _ rfl (.tmp 24) (.tmp 28) 35 rfl w.heap.size 3 i0 (.int .i64 0) 1 8 Try.underlying35 hi hz0 hz1 hz2 rfl (by omega) _ _ _ rfl HO.out _ _ _ rfl rfl rfl (by omega) (by omega) (by omega) ?_; intro v' w2 hown' hb2)
      go_roundw
      case rel => exact ⟨k + 1, by omega, by go_num, by rw [HS.out, ints_snoc]; exact hown', hb.trans hb2⟩
      case measure => simp [intOf]; omega
    · have e1 : k = (shiftd L b).length := by rw [shiftd_len]; omega
      subst e1
      rw [List.take_length] at hown
      obtain ⟨A', c', rfl⟩ := own_form hown
      have hl2 : (shiftd L b).length ≤ 1048576 := by rw [shiftd_len]; omega
      cases h3 : offOk (shiftd L b)
      · go_wp2_with (go_at_call 50; refine (impl_AreOffsets_any _ _ _ _ (by first | exact Mem.below (by assumption) (by (repeat (first | exact Below.refl _ _ | assumption | (refine Below.alloc ?_ (by first | omega | (simp; done) | (simp; omega)) _) | (refine Below.setCell ?_ (by first | omega | (simp; done) | (simp; omega)) _) | (refine Below.drew ?_) | (refine Below.drewN ?_ _) | (refine Below.next (by assumption) ?_ (by first | omega | (simp; done) | (simp; omega)))))) | exact Mem.below (Mem.of_own (by assumption)) (by (repeat (first | exact Below.refl _ _ | assumption | (refine Below.alloc ?_ (by first | omega | (simp; done) | (simp; omega)) _) | (refine Below.setCell ?_ (by first | omega | (simp; done) | (simp; omega)) _) | (refine Below.drew ?_) | (refine Below.drewN ?_ _) | (refine Below.next (by assumption) ?_ (by first | omega | (simp; done) | (simp; omega))))))) (by omega)).mono ?_; rintro e w' ⟨rfl, rfl⟩)
        go_ret2
        exact RetInts.none_ (by simp [shV, HE.out, h3]) (by rw [HE.out, h3]) hb
      · go_wp2_with (go_at_call 50; refine (impl_AreOffsets_any _ _ _ _ (by first | exact Mem.below (by assumption) (by (repeat (first | exact Below.refl _ _ | assumption | (refine Below.alloc ?_ (by first | omega | (simp; done) | (simp; omega)) _) | (refine Below.setCell ?_ (by first | omega | (simp; done) | (simp; omega)) _) | (refine Below.drew ?_) | (refine Below.drewN ?_ _) | (refine Below.next (by assumption) ?_ (by first | omega | (simp; done) | (simp; omega)))))) | exact Mem.below (Mem.of_own (by assumption)) (by (repeat (first | exact Below.refl _ _ | assumption | (refine Below.alloc ?_ (by first | omega | (simp; done) | (simp; omega)) _) | (refine Below.setCell ?_ (by first | omega | (simp; done) | (simp; omega)) _) | (refine Below.drew ?_) | (refine Below.drewN ?_ _) | (refine Below.next (by assumption) ?_ (by first | omega | (simp; done) | (simp; omega))))))) (by omega)).mono ?_; rintro e w' ⟨rfl, rfl⟩)
        go_ret2
        exact RetInts.some_ (by rw [HE.out, h3]) (by simp [shV, HE.out, h3]) hown rfl (by omega) hb
end Go.Proofs.Ytdipmjflgjlfeaa
