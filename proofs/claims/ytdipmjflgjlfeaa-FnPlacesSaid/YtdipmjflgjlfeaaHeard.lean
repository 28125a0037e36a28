/-
  Contracts: sources with offsets; when each is heard, the program's and the reference's.
-/
import Derived.Test.YtdipmjflgjlfeaaOff
import Derived.Test.YtdipmjflgjlfeaaSnde
import Derived.RegionTactic
import Derived.BigRegion
namespace Go.Proofs.Ytdipmjflgjlfeaa
open Go.RowKit Go.Sort

def entOk (L : List Sp) (O : List Int) : Bool := (srcOk L && offOk O) && decide (L.length = O.length)
theorem entOk_iff {L : List Sp} {O : List Int} : entOk L O = true ↔ srcOk L = true ∧ offOk O = true ∧ L.length = O.length := by simp [entOk, and_assoc]
theorem offOk_len {L : List Int} (h : offOk L = true) : L.all isOff = true ∧ 1 ≤ L.length ∧ L.length ≤ 40 := by
  simp only [offOk, Bool.and_eq_true] at h
  have := inR_iff.1 h.2
  exact ⟨h.1, by omega, by omega⟩
/-- When each is heard. -/
def heard (L : List Sp) (O : List Int) (a : Sp) : List Int := List.zipWith (fun t o => t + o) (times L a) O
theorem heard_len {L : List Sp} {O : List Int} (a : Sp) (h : L.length = O.length) : (heard L O a).length = L.length := by simp [heard, times_len, h]
theorem heard_at {L : List Sp} {O : List Int} {a s : Sp} {k : Nat} {o : Int} (hs : L[k]? = some s) (ho : O[k]? = some o) : (heard L O a)[k]? = some (tm a s + o) := by
  simp [heard, List.getElem?_zipWith, times_at hs, ho]
theorem heard_take {L : List Sp} {O : List Int} {a s : Sp} {k : Nat} {o : Int} (hs : L[k]? = some s) (ho : O[k]? = some o) : (heard L O a).take (k + 1) = (heard L O a).take k ++ [tm a s + o] := by
  rw [List.take_add_one, heard_at hs ho]; rfl

set_option maxRecDepth 100000 in
theorem lsGood_any (A : Option Addr) (c : Nat) (L : List Sp) (B : Option Addr) (d : Nat) (O : List Int) (w : World) (hm : Mem w A (spots L)) (hn : Mem w B (ints O)) (hl : L.length ≤ 1048576) (hl2 : O.length ≤ 1048576) : Calls Try.prog 95 #[.slice A L.length c, .slice B O.length d] w fun e w' =>
    e = .returned (.bool (entOk L O)) ∧ Below w.heap.size w w' := by
  cases h1 : srcOk L
  · go_enter Try.func95, Try.ntmps95
    go_wp2_with (go_at_call 83; refine (snList_any _ _ L _ (hm.below (by (repeat (first | exact Below.refl _ _ | assumption | (refine Below.alloc ?_ (by first | omega | (simp; done) | (simp; omega)) _) | (refine Below.setCell ?_ (by first | omega | (simp; done) | (simp; omega)) _) | (refine Below.drew ?_) | (refine Below.drewN ?_ _) | (refine Below.next (by assumption) ?_ (by first | omega | (simp; done) | (simp; omega))))))) hl).mono ?_; rintro e w' ⟨rfl, hq⟩; obtain ⟨hz, hc, hf⟩ := bel hq; (try simp at hz); (try have gz1 : w.heap.size < w'.heap.size := by omega); (try have gz2 : w.heap.size + 1 < w'.heap.size := by omega); (try have gz3 : wr.heap.size < w'.heap.size := by omega))
    go_ret
    exact ⟨ret_bool (by simp [entOk, h1]), by (repeat (first | exact Below.refl _ _ | assumption | (refine Below.alloc ?_ (by first | omega | (simp; done) | (simp; omega)) _) | (refine Below.setCell ?_ (by first | omega | (simp; done) | (simp; omega)) _) | (refine Below.drew ?_) | (refine Below.drewN ?_ _) | (refine Below.next (by assumption) ?_ (by first | omega | (simp; done) | (simp; omega)))))⟩
  cases h2 : offOk O
  · go_enter Try.func95, Try.ntmps95
    go_wp2_with (first | (go_at_call 83; refine (snList_any _ _ L _ (hm.below (by (repeat (first | exact Below.refl _ _ | assumption | (refine Below.alloc ?_ (by first | omega | (simp; done) | (simp; omega)) _) | (refine Below.setCell ?_ (by first | omega | (simp; done) | (simp; omega)) _) | (refine Below.drew ?_) | (refine Below.drewN ?_ _) | (refine Below.next (by assumption) ?_ (by first | omega | (simp; done) | (simp; omega))))))) hl).mono ?_; rintro e w' ⟨rfl, hq⟩; obtain ⟨hz, hc, hf⟩ := bel hq; (try simp at hz); (try have gz1 : w.heap.size < w'.heap.size := by omega); (try have gz2 : w.heap.size + 1 < w'.heap.size := by omega); (try have gz3 : wr.heap.size < w'.heap.size := by omega)) | (go_at_call 102; refine (lsOffsets_any _ _ _ _ (by first | exact Mem.below (by assumption) (by (repeat (first | exact Below.refl _ _ | assumption | (refine Below.alloc ?_ (by first | omega | (simp; done) | (simp; omega)) _) | (refine Below.setCell ?_ (by first | omega | (simp; done) | (simp; omega)) _) | (refine Below.drew ?_) | (refine Below.drewN ?_ _) | (refine Below.next (by assumption) ?_ (by first | omega | (simp; done) | (simp; omega)))))) | exact Mem.below (Mem.of_own (by assumption)) (by (repeat (first | exact Below.refl _ _ | assumption | (refine Below.alloc ?_ (by first | omega | (simp; done) | (simp; omega)) _) | (refine Below.setCell ?_ (by first | omega | (simp; done) | (simp; omega)) _) | (refine Below.drew ?_) | (refine Below.drewN ?_ _) | (refine Below.next (by assumption) ?_ (by first | omega | (simp; done) | (simp; omega))))))) (by omega)).mono ?_; rintro e w' ⟨rfl, rfl⟩))
    go_ret
    exact ⟨ret_bool (by simp [entOk, h2]), by (repeat (first | exact Below.refl _ _ | assumption | (refine Below.alloc ?_ (by first | omega | (simp; done) | (simp; omega)) _) | (refine Below.setCell ?_ (by first | omega | (simp; done) | (simp; omega)) _) | (refine Below.drew ?_) | (refine Below.drewN ?_ _) | (refine Below.next (by assumption) ?_ (by first | omega | (simp; done) | (simp; omega)))))⟩
  · have e : Hid (entOk L O = decide (L.length = O.length)) := Lib.hid (by simp [entOk, h1, h2])
    go_enter Try.func95, Try.ntmps95
    go_wp2_with (first | (go_at_call 83; refine (snList_any _ _ L _ (hm.below (by (repeat (first | exact Below.refl _ _ | assumption | (refine Below.alloc ?_ (by first | omega | (simp; done) | (simp; omega)) _) | (refine Below.setCell ?_ (by first | omega | (simp; done) | (simp; omega)) _) | (refine Below.drew ?_) | (refine Below.drewN ?_ _) | (refine Below.next (by assumption) ?_ (by first | omega | (simp; done) | (simp; omega))))))) hl).mono ?_; rintro e w' ⟨rfl, hq⟩; obtain ⟨hz, hc, hf⟩ := bel hq; (try simp at hz); (try have gz1 : w.heap.size < w'.heap.size := by omega); (try have gz2 : w.heap.size + 1 < w'.heap.size := by omega); (try have gz3 : wr.heap.size < w'.heap.size := by omega)) | (go_at_call 102; refine (lsOffsets_any _ _ _ _ (by first | exact Mem.below (by assumption) (by (repeat (first | exact Below.refl _ _ | assumption | (refine Below.alloc ?_ (by first | omega | (simp; done) | (simp; omega)) _) | (refine Below.setCell ?_ (by first | omega | (simp; done) | (simp; omega)) _) | (refine Below.drew ?_) | (refine Below.drewN ?_ _) | (refine Below.next (by assumption) ?_ (by first | omega | (simp; done) | (simp; omega)))))) | exact Mem.below (Mem.of_own (by assumption)) (by (repeat (first | exact Below.refl _ _ | assumption | (refine Below.alloc ?_ (by first | omega | (simp; done) | (simp; omega)) _) | (refine Below.setCell ?_ (by first | omega | (simp; done) | (simp; omega)) _) | (refine Below.drew ?_) | (refine Below.drewN ?_ _) | (refine Below.next (by assumption) ?_ (by first | omega | (simp; done) | (simp; omega))))))) (by omega)).mono ?_; rintro e w' ⟨rfl, rfl⟩))
    go_ret
    exact ⟨ret_bool (by rw [e.out]; first | rfl | (rw [decide_eq_decide]; omega) | (rw [Bool.eq_iff_iff]; simp; omega)), by (repeat (first | exact Below.refl _ _ | assumption | (refine Below.alloc ?_ (by first | omega | (simp; done) | (simp; omega)) _) | (refine Below.setCell ?_ (by first | omega | (simp; done) | (simp; omega)) _) | (refine Below.drew ?_) | (refine Below.drewN ?_ _) | (refine Below.next (by assumption) ?_ (by first | omega | (simp; done) | (simp; omega)))))⟩

set_option maxRecDepth 100000 in
theorem areEntries_any (A : Option Addr) (c : Nat) (L : List Sp) (B : Option Addr) (d : Nat) (O : List Int) (w : World) (hm : Mem w A (spots L)) (hn : Mem w B (ints O)) (hl : L.length ≤ 1048576) (hl2 : O.length ≤ 1048576) : Calls Try.prog 93 #[.slice A L.length c, .slice B O.length d] w fun e w' =>
    e = .returned (.bool (entOk L O)) ∧ Below w.heap.size w w' := by
  cases h1 : srcOk L
  · go_enter Try.func93, Try.ntmps93
    go_wp2_with (go_at_call 80; refine (areSources_any _ _ L _ (hm.below (by (repeat (first | exact Below.refl _ _ | assumption | (refine Below.alloc ?_ (by first | omega | (simp; done) | (simp; omega)) _) | (refine Below.setCell ?_ (by first | omega | (simp; done) | (simp; omega)) _) | (refine Below.drew ?_) | (refine Below.drewN ?_ _) | (refine Below.next (by assumption) ?_ (by first | omega | (simp; done) | (simp; omega))))))) hl).mono ?_; rintro e w' ⟨rfl, hq⟩; obtain ⟨hz, hc, hf⟩ := bel hq; (try simp at hz); (try have gz1 : w.heap.size < w'.heap.size := by omega); (try have gz2 : w.heap.size + 1 < w'.heap.size := by omega); (try have gz3 : wr.heap.size < w'.heap.size := by omega))
    go_ret
    exact ⟨ret_bool (by simp [entOk, h1]), by (repeat (first | exact Below.refl _ _ | assumption | (refine Below.alloc ?_ (by first | omega | (simp; done) | (simp; omega)) _) | (refine Below.setCell ?_ (by first | omega | (simp; done) | (simp; omega)) _) | (refine Below.drew ?_) | (refine Below.drewN ?_ _) | (refine Below.next (by assumption) ?_ (by first | omega | (simp; done) | (simp; omega)))))⟩
  cases h2 : offOk O
  · go_enter Try.func93, Try.ntmps93
    go_wp2_with (first | (go_at_call 80; refine (areSources_any _ _ L _ (hm.below (by (repeat (first | exact Below.refl _ _ | assumption | (refine Below.alloc ?_ (by first | omega | (simp; done) | (simp; omega)) _) | (refine Below.setCell ?_ (by first | omega | (simp; done) | (simp; omega)) _) | (refine Below.drew ?_) | (refine Below.drewN ?_ _) | (refine Below.next (by assumption) ?_ (by first | omega | (simp; done) | (simp; omega))))))) hl).mono ?_; rintro e w' ⟨rfl, hq⟩; obtain ⟨hz, hc, hf⟩ := bel hq; (try simp at hz); (try have gz1 : w.heap.size < w'.heap.size := by omega); (try have gz2 : w.heap.size + 1 < w'.heap.size := by omega); (try have gz3 : wr.heap.size < w'.heap.size := by omega)) | (go_at_call 50; refine (impl_AreOffsets_any _ _ _ _ (by first | exact Mem.below (by assumption) (by (repeat (first | exact Below.refl _ _ | assumption | (refine Below.alloc ?_ (by first | omega | (simp; done) | (simp; omega)) _) | (refine Below.setCell ?_ (by first | omega | (simp; done) | (simp; omega)) _) | (refine Below.drew ?_) | (refine Below.drewN ?_ _) | (refine Below.next (by assumption) ?_ (by first | omega | (simp; done) | (simp; omega)))))) | exact Mem.below (Mem.of_own (by assumption)) (by (repeat (first | exact Below.refl _ _ | assumption | (refine Below.alloc ?_ (by first | omega | (simp; done) | (simp; omega)) _) | (refine Below.setCell ?_ (by first | omega | (simp; done) | (simp; omega)) _) | (refine Below.drew ?_) | (refine Below.drewN ?_ _) | (refine Below.next (by assumption) ?_ (by first | omega | (simp; done) | (simp; omega))))))) (by omega)).mono ?_; rintro e w' ⟨rfl, rfl⟩))
    go_ret
    exact ⟨ret_bool (by simp [entOk, h2]), by (repeat (first | exact Below.refl _ _ | assumption | (refine Below.alloc ?_ (by first | omega | (simp; done) | (simp; omega)) _) | (refine Below.setCell ?_ (by first | omega | (simp; done) | (simp; omega)) _) | (refine Below.drew ?_) | (refine Below.drewN ?_ _) | (refine Below.next (by assumption) ?_ (by first | omega | (simp; done) | (simp; omega)))))⟩
  · have e : Hid (entOk L O = decide (L.length = O.length)) := Lib.hid (by simp [entOk, h1, h2])
    go_enter Try.func93, Try.ntmps93
    go_wp2_with (first | (go_at_call 80; refine (areSources_any _ _ L _ (hm.below (by (repeat (first | exact Below.refl _ _ | assumption | (refine Below.alloc ?_ (by first | omega | (simp; done) | (simp; omega)) _) | (refine Below.setCell ?_ (by first | omega | (simp; done) | (simp; omega)) _) | (refine Below.drew ?_) | (refine Below.drewN ?_ _) | (refine Below.next (by assumption) ?_ (by first | omega | (simp; done) | (simp; omega))))))) hl).mono ?_; rintro e w' ⟨rfl, hq⟩; obtain ⟨hz, hc, hf⟩ := bel hq; (try simp at hz); (try have gz1 : w.heap.size < w'.heap.size := by omega); (try have gz2 : w.heap.size + 1 < w'.heap.size := by omega); (try have gz3 : wr.heap.size < w'.heap.size := by omega)) | (go_at_call 50; refine (impl_AreOffsets_any _ _ _ _ (by first | exact Mem.below (by assumption) (by (repeat (first | exact Below.refl _ _ | assumption | (refine Below.alloc ?_ (by first | omega | (simp; done) | (simp; omega)) _) | (refine Below.setCell ?_ (by first | omega | (simp; done) | (simp; omega)) _) | (refine Below.drew ?_) | (refine Below.drewN ?_ _) | (refine Below.next (by assumption) ?_ (by first | omega | (simp; done) | (simp; omega)))))) | exact Mem.below (Mem.of_own (by assumption)) (by (repeat (first | exact Below.refl _ _ | assumption | (refine Below.alloc ?_ (by first | omega | (simp; done) | (simp; omega)) _) | (refine Below.setCell ?_ (by first | omega | (simp; done) | (simp; omega)) _) | (refine Below.drew ?_) | (refine Below.drewN ?_ _) | (refine Below.next (by assumption) ?_ (by first | omega | (simp; done) | (simp; omega))))))) (by omega)).mono ?_; rintro e w' ⟨rfl, rfl⟩))
    go_ret
    exact ⟨ret_bool (by rw [e.out]; first | rfl | (rw [decide_eq_decide]; omega) | (rw [Bool.eq_iff_iff]; simp; omega)), by (repeat (first | exact Below.refl _ _ | assumption | (refine Below.alloc ?_ (by first | omega | (simp; done) | (simp; omega)) _) | (refine Below.setCell ?_ (by first | omega | (simp; done) | (simp; omega)) _) | (refine Below.drew ?_) | (refine Below.drewN ?_ _) | (refine Below.next (by assumption) ?_ (by first | omega | (simp; done) | (simp; omega)))))⟩

set_option maxRecDepth 100000 in
set_option maxHeartbeats 1600000 in
theorem lsHeard_any (A : Option Addr) (c : Nat) (L : List Sp) (B : Option Addr) (d : Nat) (O : List Int) (a : Sp) (w : World) (hm : Mem w A (spots L)) (hn : Mem w B (ints O)) (g2 : L.length ≤ 40) (g1 : L.all isSp = true) (hO : ∀ o ∈ O, -10000 ≤ o ∧ o ≤ 10000) (hLO : L.length = O.length) (h2 : isSp a = true) :
    Calls Try.prog 96 #[.slice A L.length c, .slice B O.length d, .agg #[.int .i64 a.x, .int .i64 a.y]] w fun e w' =>
    ∃ A' c', e = .returned (.slice A' L.length c') ∧ w'.ownsRow w.heap.size 3 1 (.slice A' L.length c') L.length (ints (heard L O a)) ∧ Below w.heap.size w w' := by
  obtain ⟨i0, hi, hz0, hz1, hz2⟩ := info_parts info_int
  have HG := Lib.hid g1
  have HA := Lib.hid h2
  have HO := Lib.hid hO
  have HLO := Lib.hid hLO
  clear g1 h2 hO hLO
  go_enter Try.func96, Try.ntmps96
  go_wp2
  go_loopw [7, 8, 9, 12] (fun v _ _ i wr => ∃ k : Nat, k ≤ L.length ∧ i = .int .i64 k ∧ wr.ownsRow (w.heap.size + 1) 3 1 v k (ints ((heard L O a).take k)) ∧ Below (w.heap.size + 1) (w.alloc (.cells #[.int .i64 a.x, .int .i64 a.y] 25)) wr) (fun _ _ _ i _ => L.length - (intOf i).toNat)
  case atStart => exact ⟨0, by omega, rfl, World.ownsRow_nil _ _ _ _, by (repeat (first | exact Below.refl _ _ | assumption | (refine Below.alloc ?_ (by first | omega | (simp; done) | (simp; omega)) _) | (refine Below.setCell ?_ (by first | omega | (simp; done) | (simp; omega)) _) | (refine Below.drew ?_) | (refine Below.drewN ?_ _) | (refine Below.next (by assumption) ?_ (by first | omega | (simp; done) | (simp; omega)))))⟩
  case round =>
    obtain ⟨k, hk, rfl, hown, hbx⟩ := hrel
    obtain ⟨hb, hsz⟩ := boxed hbx
    by_cases hlt : k < L.length
    · have hlt2 : k < O.length := by have := HLO.out; omega
      obtain ⟨s, hs⟩ := some_of_lt hlt
      obtain ⟨o, ho⟩ := some_of_lt hlt2
      obtain ⟨b, off, rfl, e1, e2⟩ := (hm.below hb).spot hs
      obtain ⟨b2, off2, rfl, e3⟩ := (hn.below hb).int ho
      have q1 : wr.cell? ⟨w.heap.size, 0, none⟩ = some (.int .i64 a.x) := boxed_cell hbx 0
      have q2 : wr.cell? ⟨w.heap.size, 1, none⟩ = some (.int .i64 a.y) := boxed_cell hbx 1
      have hbl : b2 < wr.heap.size := World.block_lt_of_cell? wr _ e3
      have hsg := all_at HG.out hs
      have hob := HO.out o (List.mem_of_getElem? ho)
      have htb := tm_bd HA.out hsg
      have htb2 : 0 ≤ (sndT (sq a s) : Int) ∧ (sndT (sq a s) : Int) ≤ 302 := htb
      have hbl0 : b2 < w.heap.size := by
        obtain ⟨b3, off3, e5, e6⟩ := hn.int ho
        simp only [Option.some.injEq, Addr.mk.injEq, and_true] at e5
        rw [e5.1]
        exact World.block_lt_of_cell? w _ e6
      have HV := Lib.hid hown.lt
      have HT := Lib.hid (heard_take (a := a) hs ho)
      have HW := Lib.hid hown
      clear hs ho hown
      go_wp2
      go_region_held3 (fun w' => w'.cell? ⟨b2, off2 + k, none⟩ = some (.int .i64 o) ∧ w'.cell? ⟨w.heap.size, 0, none⟩ = some (.int .i64 a.x) ∧ w'.cell? ⟨w.heap.size, 1, none⟩ = some (.int .i64 a.y) ∧ w'.cell? ⟨wr.heap.size, 0, none⟩ = some (.int .i64 s.x) ∧ w'.cell? ⟨wr.heap.size, 1, none⟩ = some (.int .i64 s.y))
        (first | exact keep5 (by assumption) (by assumption) | exact keep5 ((Below.refl _ _).alloc (Nat.le_refl _) _) (by assumption) | exact keep5f hfar' HS1.out (fun j hj => by have := HV.out j hj; omega) | (simp [go_sem, *]; done))
        (first
          | (refine step_append_far _ rfl (.tmp 17) (.tmp 26) 35 rfl (w.heap.size + 1) 3 i0 (.int .i64 0) 1 8 Try.underlying35 hi hz0 hz1 hz2 rfl (by omega) _ _ _ rfl HW2.out _ _ _ rfl rfl rfl (by omega) (by omega) (by omega) ?_; intro v' w2 hown' hb2 hfar')
          | (go_at_call 76; refine (snDelay_any a s HA.out hsg _).mono ?_; rintro e w1 ⟨rfl, hq⟩; have HW2 := Lib.hid (own_below (own_drew (HW.out.alloc (.cells #[.int .i64 s.x, .int .i64 s.y] 25))) hq); have hz := hq.size; (try simp at hz); have HS1 := Lib.hid (keep5 hq (by assumption))))
      go_wp2
      go_roundw
      case rel =>
        have hw : IntKind.i64.wrap (o + (sndT (sq a s) : Int)) = tm a s + o := (IntWalk.i64_in _ (by omega)).trans (Int.add_comm _ _)
        have hB1 : Below (w.heap.size + 1) (w.alloc (.cells #[.int .i64 a.x, .int .i64 a.y] 25)) w1 := Below.next hq (((Below.trans (Below.refl _ _) hbx).alloc (by omega) _).drew) (by simp; omega)
        exact ⟨k + 1, by omega, by go_num, by rw [HT.out, ints_snoc, ← hw]; exact hown', hB1.trans hb2⟩
      case measure => simp [intOf]; omega
    · go_wp2
      go_ret
      have e1 : k = L.length := by omega
      subst e1
      rw [List.take_of_length_le (by rw [heard_len a HLO.out]; omega)] at hown
      obtain ⟨A', c', rfl⟩ := own_form hown
      exact ⟨_, _, rfl, own_base hown (by omega), hb⟩

/-- The first k are heard, the rest are bare times. -/
def halfHeard (L : List Sp) (O : List Int) (a : Sp) (k : Nat) : List Int := (heard L O a).take k ++ (times L a).drop k
theorem halfHeard_len {L : List Sp} {O : List Int} {a : Sp} {k : Nat} (h : L.length = O.length) (hk : k ≤ L.length) : (halfHeard L O a k).length = L.length := by
  have := heard_len a h
  simp [halfHeard, times_len]
  omega
theorem halfHeard_at {L : List Sp} {O : List Int} {a s : Sp} {k : Nat} (h : L.length = O.length) (hs : L[k]? = some s) : (halfHeard L O a k)[k]? = some (tm a s) := by
  have hl := heard_len a h
  have hk : k < L.length := (List.getElem?_eq_some_iff.1 hs).1
  have e1 : ((heard L O a).take k).length = k := by simp; omega
  unfold halfHeard
  rw [List.getElem?_append_right (by omega), e1, Nat.sub_self, List.getElem?_drop, Nat.add_zero, times_at hs]
theorem halfHeard_set {L : List Sp} {O : List Int} {a s : Sp} {k : Nat} {o : Int} (h : L.length = O.length) (hs : L[k]? = some s) (ho : O[k]? = some o) : (halfHeard L O a k).set k (tm a s + o) = halfHeard L O a (k + 1) := by
  have hl := heard_len a h
  have hk : k < L.length := (List.getElem?_eq_some_iff.1 hs).1
  have e1 : ((heard L O a).take k).length = k := by simp; omega
  have hd : (times L a).drop k = tm a s :: (times L a).drop (k + 1) := by
    rw [List.drop_eq_getElem_cons (by rw [times_len]; exact hk)]
    have := times_at (a := a) hs
    rw [List.getElem?_eq_getElem (by rw [times_len]; exact hk)] at this
    rw [Option.some.inj this]
  unfold halfHeard
  rw [List.set_append_right _ _ (by omega), e1, Nat.sub_self, hd, List.set_cons_zero, heard_take hs ho, List.append_assoc]
  rfl

set_option maxRecDepth 100000 in
set_option maxHeartbeats 1600000 in
theorem heardTimes_any (A : Option Addr) (c : Nat) (L : List Sp) (B : Option Addr) (d : Nat) (O : List Int) (a : Sp) (w : World) (hm : Mem w A (spots L)) (hn : Mem w B (ints O)) (g2 : L.length ≤ 40) (g1 : L.all isSp = true) (hO : ∀ o ∈ O, -10000 ≤ o ∧ o ≤ 10000) (hLO : L.length = O.length) (h2 : isSp a = true) :
    Calls Try.prog 94 #[.slice A L.length c, .slice B O.length d, .agg #[.int .i64 a.x, .int .i64 a.y]] w fun e w' =>
    ∃ A' c', e = .returned (.slice A' L.length c') ∧ w'.ownsRow w.heap.size 3 1 (.slice A' L.length c') L.length (ints (heard L O a)) ∧ Below w.heap.size w w' := by
  have HG := Lib.hid g1
  have HA := Lib.hid h2
  have HO := Lib.hid hO
  have HLO := Lib.hid hLO
  clear hO hLO
  go_enter Try.func94, Try.ntmps94
  go_wp2_with (go_at_call 82; refine (timesAt_any _ _ L a _ (hm.below (by (repeat (first | exact Below.refl _ _ | assumption | (refine Below.alloc ?_ (by first | omega | (simp; done) | (simp; omega)) _) | (refine Below.setCell ?_ (by first | omega | (simp; done) | (simp; omega)) _) | (refine Below.drew ?_) | (refine Below.drewN ?_ _) | (refine Below.next (by assumption) ?_ (by first | omega | (simp; done) | (simp; omega))))))) g2 g1 h2).mono ?_; rintro e w' ⟨A', c', rfl, ho, hq⟩; obtain ⟨hz, hc, hf⟩ := bel hq; (try simp at hz); (try have gz1 : w.heap.size < w'.heap.size := by omega); (try have gz2 : w.heap.size + 1 < w'.heap.size := by omega); (try have gz3 : wr.heap.size < w'.heap.size := by omega))
  have hb0 : Below w.heap.size w w' := by (repeat (first | exact Below.refl _ _ | assumption | (refine Below.alloc ?_ (by first | omega | (simp; done) | (simp; omega)) _) | (refine Below.setCell ?_ (by first | omega | (simp; done) | (simp; omega)) _) | (refine Below.drew ?_) | (refine Below.drewN ?_ _) | (refine Below.next (by assumption) ?_ (by first | omega | (simp; done) | (simp; omega)))))
  have ho0 := own_base ho (base' := w.heap.size) (by simp)
  have e0 : Hid (times L a = halfHeard L O a 0) := Lib.hid (by simp [halfHeard])
  clear g1 h2 ho hc hf hq
  go_loopw [8, 14] (fun _ i wr => ∃ k : Nat, k ≤ L.length ∧ i = .int .i64 k ∧ wr.ownsRow w.heap.size 3 1 (.slice A' L.length c') L.length (ints (halfHeard L O a k)) ∧ Below w.heap.size w wr) (fun _ i _ => L.length - (intOf i).toNat)
  case atStart => exact ⟨0, by omega, rfl, e0.out ▸ ho0, hb0⟩
  case round =>
    obtain ⟨k, hk, rfl, hown, hb⟩ := hrel
    by_cases hlt : k < L.length
    · have hlt2 : k < O.length := by have := HLO.out; omega
      obtain ⟨s, hs⟩ := some_of_lt hlt
      obtain ⟨o, ho⟩ := some_of_lt hlt2
      obtain ⟨g, rfl, hg1, hg2⟩ := own_addr hown (by omega)
      obtain ⟨b2, off2, rfl, e3⟩ := (hn.below hb).int ho
      have hsg := all_at HG.out hs
      have hob := HO.out o (List.mem_of_getElem? ho)
      have htb := tm_bd HA.out hsg
      have hcell : wr.cell? ⟨g, k, none⟩ = some (.int .i64 (tm a s)) := own_int hown (halfHeard_at HLO.out hs)
      have hfz := hown.frozenAt k
      have hst := (hown.stored k (.int .i64 (tm a s + o))).1
      rw [← ints_set, halfHeard_set HLO.out hs ho] at hst
      have HST := Lib.hid hst
      clear hs ho hown hst
      go_wp2
      have hw := IntWalk.i64_in (tm a s + o) (by omega)
      go_region
      go_wp2
      go_roundw
      case rel => exact ⟨k + 1, by omega, by go_num, HST.out, (Below.drew hb).setCell hg1 _⟩
      case measure => simp [intOf]; omega
    · go_wp2
      go_ret
      have e1 : k = L.length := by omega
      subst e1
      have e2 : halfHeard L O a L.length = heard L O a := by
        unfold halfHeard
        rw [List.take_of_length_le (by rw [heard_len a HLO.out]; omega), List.drop_of_length_le (by rw [times_len]; omega), List.append_nil]
      rw [e2] at hown
      exact ⟨_, _, rfl, hown, hb⟩

/-- The value of a question that is asked of sources with offsets and a spot. -/
def htV (L : List Sp) (O : List Int) (a : Sp) : List Int := if entOk L O && isSp a then heard L O a else []
theorem off_all {O : List Int} (h : offOk O = true) : ∀ o ∈ O, -10000 ≤ o ∧ o ≤ 10000 := fun o ho => by
  have := inR_iff.1 (List.all_eq_true.1 (offOk_len h).1 o ho)
  omega

set_option maxRecDepth 100000 in
theorem spec_HeardTimes_any (A : Option Addr) (c : Nat) (L : List Sp) (B : Option Addr) (d : Nat) (O : List Int) (a : Sp) (w : World) (hm : Mem w A (spots L)) (hn : Mem w B (ints O)) (hl : L.length ≤ 1048576) (hl2 : O.length ≤ 1048576) : Calls Try.prog 39 #[.slice A L.length c, .slice B O.length d, .agg #[.int .i64 a.x, .int .i64 a.y]] w
    (RetInts w (htV L O a) (entOk L O && isSp a)) := by
  cases h1 : entOk L O
  · go_enter Try.func39, Try.ntmps39
    go_wp2_with (go_at_call 95; refine (lsGood_any _ _ L _ _ O _ (hm.below (by (repeat (first | exact Below.refl _ _ | assumption | (refine Below.alloc ?_ (by first | omega | (simp; done) | (simp; omega)) _) | (refine Below.setCell ?_ (by first | omega | (simp; done) | (simp; omega)) _) | (refine Below.drew ?_) | (refine Below.drewN ?_ _) | (refine Below.next (by assumption) ?_ (by first | omega | (simp; done) | (simp; omega))))))) (hn.below (by (repeat (first | exact Below.refl _ _ | assumption | (refine Below.alloc ?_ (by first | omega | (simp; done) | (simp; omega)) _) | (refine Below.setCell ?_ (by first | omega | (simp; done) | (simp; omega)) _) | (refine Below.drew ?_) | (refine Below.drewN ?_ _) | (refine Below.next (by assumption) ?_ (by first | omega | (simp; done) | (simp; omega))))))) hl hl2).mono ?_; rintro e w' ⟨rfl, hq⟩; obtain ⟨hz, hc, hf⟩ := bel hq; (try simp at hz); (try have gz1 : w.heap.size < w'.heap.size := by omega); (try have gz2 : w.heap.size + 1 < w'.heap.size := by omega); (try have gz3 : wr.heap.size < w'.heap.size := by omega))
    go_ret2
    exact RetInts.none_ (by simp [htV, h1]) rfl (by (repeat (first | exact Below.refl _ _ | assumption | (refine Below.alloc ?_ (by first | omega | (simp; done) | (simp; omega)) _) | (refine Below.setCell ?_ (by first | omega | (simp; done) | (simp; omega)) _) | (refine Below.drew ?_) | (refine Below.drewN ?_ _) | (refine Below.next (by assumption) ?_ (by first | omega | (simp; done) | (simp; omega))))))
  obtain ⟨g1, g2, g3⟩ := entOk_iff.1 h1
  have G3 := Lib.hid g3
  clear g3
  obtain ⟨r1, r2, r3⟩ := srcOk_iff.1 g1
  cases h2 : isSp a
  · go_enter Try.func39, Try.ntmps39
    go_wp2_with (first | (go_at_call 95; refine (lsGood_any _ _ L _ _ O _ (hm.below (by (repeat (first | exact Below.refl _ _ | assumption | (refine Below.alloc ?_ (by first | omega | (simp; done) | (simp; omega)) _) | (refine Below.setCell ?_ (by first | omega | (simp; done) | (simp; omega)) _) | (refine Below.drew ?_) | (refine Below.drewN ?_ _) | (refine Below.next (by assumption) ?_ (by first | omega | (simp; done) | (simp; omega))))))) (hn.below (by (repeat (first | exact Below.refl _ _ | assumption | (refine Below.alloc ?_ (by first | omega | (simp; done) | (simp; omega)) _) | (refine Below.setCell ?_ (by first | omega | (simp; done) | (simp; omega)) _) | (refine Below.drew ?_) | (refine Below.drewN ?_ _) | (refine Below.next (by assumption) ?_ (by first | omega | (simp; done) | (simp; omega))))))) hl hl2).mono ?_; rintro e w' ⟨rfl, hq⟩; obtain ⟨hz, hc, hf⟩ := bel hq; (try simp at hz); (try have gz1 : w.heap.size < w'.heap.size := by omega); (try have gz2 : w.heap.size + 1 < w'.heap.size := by omega); (try have gz3 : wr.heap.size < w'.heap.size := by omega)) | (go_at_call 84; refine (stGood_any _ _).mono ?_; rintro e w' ⟨rfl, o, rfl⟩))
    go_ret2
    exact RetInts.none_ (by simp [htV, h2]) rfl (by (repeat (first | exact Below.refl _ _ | assumption | (refine Below.alloc ?_ (by first | omega | (simp; done) | (simp; omega)) _) | (refine Below.setCell ?_ (by first | omega | (simp; done) | (simp; omega)) _) | (refine Below.drew ?_) | (refine Below.drewN ?_ _) | (refine Below.next (by assumption) ?_ (by first | omega | (simp; done) | (simp; omega))))))
  · have HV : Hid (htV L O a = heard L O a) := Lib.hid (by simp [htV, h1, h2])
    go_enter Try.func39, Try.ntmps39
    go_wp2_with (first | (go_at_call 95; refine (lsGood_any _ _ L _ _ O _ (hm.below (by (repeat (first | exact Below.refl _ _ | assumption | (refine Below.alloc ?_ (by first | omega | (simp; done) | (simp; omega)) _) | (refine Below.setCell ?_ (by first | omega | (simp; done) | (simp; omega)) _) | (refine Below.drew ?_) | (refine Below.drewN ?_ _) | (refine Below.next (by assumption) ?_ (by first | omega | (simp; done) | (simp; omega))))))) (hn.below (by (repeat (first | exact Below.refl _ _ | assumption | (refine Below.alloc ?_ (by first | omega | (simp; done) | (simp; omega)) _) | (refine Below.setCell ?_ (by first | omega | (simp; done) | (simp; omega)) _) | (refine Below.drew ?_) | (refine Below.drewN ?_ _) | (refine Below.next (by assumption) ?_ (by first | omega | (simp; done) | (simp; omega))))))) hl hl2).mono ?_; rintro e w' ⟨rfl, hq⟩; obtain ⟨hz, hc, hf⟩ := bel hq; (try simp at hz); (try have gz1 : w.heap.size < w'.heap.size := by omega); (try have gz2 : w.heap.size + 1 < w'.heap.size := by omega); (try have gz3 : wr.heap.size < w'.heap.size := by omega)) | (go_at_call 84; refine (stGood_any _ _).mono ?_; rintro e w' ⟨rfl, o, rfl⟩))
    refine (lsHeard_any _ _ L _ _ O a _ (hm.below (by (repeat (first | exact Below.refl _ _ | assumption | (refine Below.alloc ?_ (by first | omega | (simp; done) | (simp; omega)) _) | (refine Below.setCell ?_ (by first | omega | (simp; done) | (simp; omega)) _) | (refine Below.drew ?_) | (refine Below.drewN ?_ _) | (refine Below.next (by assumption) ?_ (by first | omega | (simp; done) | (simp; omega))))))) (hn.below (by (repeat (first | exact Below.refl _ _ | assumption | (refine Below.alloc ?_ (by first | omega | (simp; done) | (simp; omega)) _) | (refine Below.setCell ?_ (by first | omega | (simp; done) | (simp; omega)) _) | (refine Below.drew ?_) | (refine Below.drewN ?_ _) | (refine Below.next (by assumption) ?_ (by first | omega | (simp; done) | (simp; omega))))))) r2 r1 (off_all g2) G3.out h2).mono ?_
    rintro e w' ⟨A', c', rfl, ho, hq⟩
    (try simp at hz); (try have gz1 : w.heap.size < w'.heap.size := by omega); (try have gz2 : w.heap.size + 1 < w'.heap.size := by omega); (try have gz3 : wr.heap.size < w'.heap.size := by omega)
    go_wp2
    go_ret2
    exact RetInts.some_ rfl HV.out ho (heard_len a G3.out).symm (by first | omega | (simp; done) | (simp; omega)) (by (repeat (first | exact Below.refl _ _ | assumption | (refine Below.alloc ?_ (by first | omega | (simp; done) | (simp; omega)) _) | (refine Below.setCell ?_ (by first | omega | (simp; done) | (simp; omega)) _) | (refine Below.drew ?_) | (refine Below.drewN ?_ _) | (refine Below.next (by assumption) ?_ (by first | omega | (simp; done) | (simp; omega))))))

set_option maxRecDepth 100000 in
theorem impl_HeardTimes_any (A : Option Addr) (c : Nat) (L : List Sp) (B : Option Addr) (d : Nat) (O : List Int) (a : Sp) (w : World) (hm : Mem w A (spots L)) (hn : Mem w B (ints O)) (hl : L.length ≤ 1048576) (hl2 : O.length ≤ 1048576) : Calls Try.prog 38 #[.slice A L.length c, .slice B O.length d, .agg #[.int .i64 a.x, .int .i64 a.y]] w
    (RetInts w (htV L O a) (entOk L O && isSp a)) := by
  cases h1 : entOk L O
  · go_enter Try.func38, Try.ntmps38
    go_wp2_with (go_at_call 93; refine (areEntries_any _ _ L _ _ O _ (hm.below (by (repeat (first | exact Below.refl _ _ | assumption | (refine Below.alloc ?_ (by first | omega | (simp; done) | (simp; omega)) _) | (refine Below.setCell ?_ (by first | omega | (simp; done) | (simp; omega)) _) | (refine Below.drew ?_) | (refine Below.drewN ?_ _) | (refine Below.next (by assumption) ?_ (by first | omega | (simp; done) | (simp; omega))))))) (hn.below (by (repeat (first | exact Below.refl _ _ | assumption | (refine Below.alloc ?_ (by first | omega | (simp; done) | (simp; omega)) _) | (refine Below.setCell ?_ (by first | omega | (simp; done) | (simp; omega)) _) | (refine Below.drew ?_) | (refine Below.drewN ?_ _) | (refine Below.next (by assumption) ?_ (by first | omega | (simp; done) | (simp; omega))))))) hl hl2).mono ?_; rintro e w' ⟨rfl, hq⟩; obtain ⟨hz, hc, hf⟩ := bel hq; (try simp at hz); (try have gz1 : w.heap.size < w'.heap.size := by omega); (try have gz2 : w.heap.size + 1 < w'.heap.size := by omega); (try have gz3 : wr.heap.size < w'.heap.size := by omega))
    go_ret2
    exact RetInts.none_ (by simp [htV, h1]) rfl (by (repeat (first | exact Below.refl _ _ | assumption | (refine Below.alloc ?_ (by first | omega | (simp; done) | (simp; omega)) _) | (refine Below.setCell ?_ (by first | omega | (simp; done) | (simp; omega)) _) | (refine Below.drew ?_) | (refine Below.drewN ?_ _) | (refine Below.next (by assumption) ?_ (by first | omega | (simp; done) | (simp; omega))))))
  obtain ⟨g1, g2, g3⟩ := entOk_iff.1 h1
  have G3 := Lib.hid g3
  clear g3
  obtain ⟨r1, r2, r3⟩ := srcOk_iff.1 g1
  cases h2 : isSp a
  · go_enter Try.func38, Try.ntmps38
    go_wp2_with (first | (go_at_call 93; refine (areEntries_any _ _ L _ _ O _ (hm.below (by (repeat (first | exact Below.refl _ _ | assumption | (refine Below.alloc ?_ (by first | omega | (simp; done) | (simp; omega)) _) | (refine Below.setCell ?_ (by first | omega | (simp; done) | (simp; omega)) _) | (refine Below.drew ?_) | (refine Below.drewN ?_ _) | (refine Below.next (by assumption) ?_ (by first | omega | (simp; done) | (simp; omega))))))) (hn.below (by (repeat (first | exact Below.refl _ _ | assumption | (refine Below.alloc ?_ (by first | omega | (simp; done) | (simp; omega)) _) | (refine Below.setCell ?_ (by first | omega | (simp; done) | (simp; omega)) _) | (refine Below.drew ?_) | (refine Below.drewN ?_ _) | (refine Below.next (by assumption) ?_ (by first | omega | (simp; done) | (simp; omega))))))) hl hl2).mono ?_; rintro e w' ⟨rfl, hq⟩; obtain ⟨hz, hc, hf⟩ := bel hq; (try simp at hz); (try have gz1 : w.heap.size < w'.heap.size := by omega); (try have gz2 : w.heap.size + 1 < w'.heap.size := by omega); (try have gz3 : wr.heap.size < w'.heap.size := by omega)) | (go_at_call 73; refine (isSpot_any _ _).mono ?_; rintro e w' ⟨rfl, o, rfl⟩))
    go_ret2
    exact RetInts.none_ (by simp [htV, h2]) rfl (by (repeat (first | exact Below.refl _ _ | assumption | (refine Below.alloc ?_ (by first | omega | (simp; done) | (simp; omega)) _) | (refine Below.setCell ?_ (by first | omega | (simp; done) | (simp; omega)) _) | (refine Below.drew ?_) | (refine Below.drewN ?_ _) | (refine Below.next (by assumption) ?_ (by first | omega | (simp; done) | (simp; omega))))))
  · have HV : Hid (htV L O a = heard L O a) := Lib.hid (by simp [htV, h1, h2])
    go_enter Try.func38, Try.ntmps38
    go_wp2_with (first | (first | (go_at_call 93; refine (areEntries_any _ _ L _ _ O _ (hm.below (by (repeat (first | exact Below.refl _ _ | assumption | (refine Below.alloc ?_ (by first | omega | (simp; done) | (simp; omega)) _) | (refine Below.setCell ?_ (by first | omega | (simp; done) | (simp; omega)) _) | (refine Below.drew ?_) | (refine Below.drewN ?_ _) | (refine Below.next (by assumption) ?_ (by first | omega | (simp; done) | (simp; omega))))))) (hn.below (by (repeat (first | exact Below.refl _ _ | assumption | (refine Below.alloc ?_ (by first | omega | (simp; done) | (simp; omega)) _) | (refine Below.setCell ?_ (by first | omega | (simp; done) | (simp; omega)) _) | (refine Below.drew ?_) | (refine Below.drewN ?_ _) | (refine Below.next (by assumption) ?_ (by first | omega | (simp; done) | (simp; omega))))))) hl hl2).mono ?_; rintro e w' ⟨rfl, hq⟩; obtain ⟨hz, hc, hf⟩ := bel hq; (try simp at hz); (try have gz1 : w.heap.size < w'.heap.size := by omega); (try have gz2 : w.heap.size + 1 < w'.heap.size := by omega); (try have gz3 : wr.heap.size < w'.heap.size := by omega)) | (go_at_call 73; refine (isSpot_any _ _).mono ?_; rintro e w' ⟨rfl, o, rfl⟩)) | (go_at_call 94; refine (heardTimes_any _ _ L _ _ O a _ (hm.below (by (repeat (first | exact Below.refl _ _ | assumption | (refine Below.alloc ?_ (by first | omega | (simp; done) | (simp; omega)) _) | (refine Below.setCell ?_ (by first | omega | (simp; done) | (simp; omega)) _) | (refine Below.drew ?_) | (refine Below.drewN ?_ _) | (refine Below.next (by assumption) ?_ (by first | omega | (simp; done) | (simp; omega))))))) (hn.below (by (repeat (first | exact Below.refl _ _ | assumption | (refine Below.alloc ?_ (by first | omega | (simp; done) | (simp; omega)) _) | (refine Below.setCell ?_ (by first | omega | (simp; done) | (simp; omega)) _) | (refine Below.drew ?_) | (refine Below.drewN ?_ _) | (refine Below.next (by assumption) ?_ (by first | omega | (simp; done) | (simp; omega))))))) r2 r1 (off_all g2) G3.out h2).mono ?_; rintro e w' ⟨A', c', rfl, ho, hq⟩; have hz := hq.size; (try simp at hz); (try have gz1 : w.heap.size < w'.heap.size := by omega); (try have gz2 : w.heap.size + 1 < w'.heap.size := by omega); (try have gz3 : wr.heap.size < w'.heap.size := by omega)))
    go_ret2
    exact RetInts.some_ rfl HV.out ho (heard_len a G3.out).symm (by first | omega | (simp; done) | (simp; omega)) (by (repeat (first | exact Below.refl _ _ | assumption | (refine Below.alloc ?_ (by first | omega | (simp; done) | (simp; omega)) _) | (refine Below.setCell ?_ (by first | omega | (simp; done) | (simp; omega)) _) | (refine Below.drew ?_) | (refine Below.drewN ?_ _) | (refine Below.next (by assumption) ?_ (by first | omega | (simp; done) | (simp; omega))))))
end Go.Proofs.Ytdipmjflgjlfeaa
