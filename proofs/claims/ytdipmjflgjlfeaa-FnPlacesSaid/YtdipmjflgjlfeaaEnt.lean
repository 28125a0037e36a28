/-
  Contracts: EntryTimes, the program's and the reference's.
-/
import Derived.Test.YtdipmjflgjlfeaaMus
import Derived.Test.YtdipmjflgjlfeaaHeard
namespace Go.Proofs.Ytdipmjflgjlfeaa
open Go.RowKit Go.Sort

def musHas (L : List Ms) (n : Int) : Bool := musOk L && inR n 0 (cnTo L L.length - 1)
def ents (L : List Ms) (n : Int) (O : List Int) : List Int := O.map (muT L n + ·)
theorem ents_len (L : List Ms) (n : Int) (O : List Int) : (ents L n O).length = O.length := by simp [ents]
theorem ents_at {L : List Ms} {n o : Int} {O : List Int} {k : Nat} (h : O[k]? = some o) : (ents L n O)[k]? = some (muT L n + o) := by simp [ents, h]
theorem ents_take {L : List Ms} {n o : Int} {O : List Int} {k : Nat} (h : O[k]? = some o) : (ents L n O).take (k + 1) = (ents L n O).take k ++ [muT L n + o] := by
  rw [List.take_add_one, ents_at h]; rfl
def isTm (n : Int) : Bool := decide (0 ≤ n)
def etOk (L : List Ms) (n : Int) (O : List Int) : Bool := (musHas L n && offOk O) && (ents L n O).all isTm
def etV (L : List Ms) (n : Int) (O : List Int) : List Int := if etOk L n O then ents L n O else []
theorem etV_le (L : List Ms) (n : Int) (O : List Int) : (etV L n O).length ≤ O.length := by
  unfold etV; split <;> simp [ents]

set_option maxRecDepth 100000 in
theorem muHas_any (A : Option Addr) (c : Nat) (L : List Ms) (n : Int) (w : World) (hm : Mem w A (measures L)) (hl : L.length ≤ 1048576) : Calls Try.prog 109 #[.slice A L.length c, .int .i64 n] w fun e w' => e = .returned (.bool (musHas L n)) ∧ Below w.heap.size w w' := by
  cases h : musOk L
  · go_enter Try.func109, Try.ntmps109
    go_wp2_with (go_at_call 120; refine (muGood_any _ _ L _ (hm.below (by (repeat (first | exact Below.refl _ _ | assumption | (refine Below.alloc ?_ (by first | omega | (simp; done) | (simp; omega)) _) | (refine Below.setCell ?_ (by first | omega | (simp; done) | (simp; omega)) _) | (refine Below.drew ?_) | (refine Below.drewN ?_ _) | (refine Below.next (by assumption) ?_ (by first | omega | (simp; done) | (simp; omega))))))) hl).mono ?_; rintro e w' ⟨rfl, hq⟩; obtain ⟨hz, hc, hf⟩ := bel hq; (try simp at hz); (try have gz1 : w.heap.size < w'.heap.size := by omega); (try have gz2 : w.heap.size + 1 < w'.heap.size := by omega); (try have gz3 : wr.heap.size < w'.heap.size := by omega))
    go_ret
    exact ⟨ret_bool (by simp [musHas, h]), by (repeat (first | exact Below.refl _ _ | assumption | (refine Below.alloc ?_ (by first | omega | (simp; done) | (simp; omega)) _) | (refine Below.setCell ?_ (by first | omega | (simp; done) | (simp; omega)) _) | (refine Below.drew ?_) | (refine Below.drewN ?_ _) | (refine Below.next (by assumption) ?_ (by first | omega | (simp; done) | (simp; omega)))))⟩
  · obtain ⟨g1, g2, g3⟩ := musOk_iff.1 h
    have hbd := cnTo_bd g1 L.length (Nat.le_refl _)
    have HV : Hid (musHas L n = inR n 0 (cnTo L L.length - 1)) := Lib.hid (by simp [musHas, h])
    go_enter Try.func109, Try.ntmps109
    go_wp2_with (first | (go_at_call 120; refine (muGood_any _ _ L _ (hm.below (by (repeat (first | exact Below.refl _ _ | assumption | (refine Below.alloc ?_ (by first | omega | (simp; done) | (simp; omega)) _) | (refine Below.setCell ?_ (by first | omega | (simp; done) | (simp; omega)) _) | (refine Below.drew ?_) | (refine Below.drewN ?_ _) | (refine Below.next (by assumption) ?_ (by first | omega | (simp; done) | (simp; omega))))))) hl).mono ?_; rintro e w' ⟨rfl, hq⟩; obtain ⟨hz, hc, hf⟩ := bel hq; (try simp at hz); (try have gz1 : w.heap.size < w'.heap.size := by omega); (try have gz2 : w.heap.size + 1 < w'.heap.size := by omega); (try have gz3 : wr.heap.size < w'.heap.size := by omega)) | (go_at_call 121; refine (muCounts_any _ _ L _ (hm.below (by (repeat (first | exact Below.refl _ _ | assumption | (refine Below.alloc ?_ (by first | omega | (simp; done) | (simp; omega)) _) | (refine Below.setCell ?_ (by first | omega | (simp; done) | (simp; omega)) _) | (refine Below.drew ?_) | (refine Below.drewN ?_ _) | (refine Below.next (by assumption) ?_ (by first | omega | (simp; done) | (simp; omega))))))) (by omega) g1).mono ?_; rintro e w' ⟨rfl, hq⟩; obtain ⟨hz, hc, hf⟩ := bel hq; (try simp at hz); (try have gz1 : w.heap.size < w'.heap.size := by omega); (try have gz2 : w.heap.size + 1 < w'.heap.size := by omega); (try have gz3 : wr.heap.size < w'.heap.size := by omega)) | (go_at_call 103; refine (l1In_any _ _ _ _).mono ?_; rintro e w' ⟨rfl, rfl⟩))
    go_ret
    exact ⟨ret_bool (by rw [HV.out]), by (repeat (first | exact Below.refl _ _ | assumption | (refine Below.alloc ?_ (by first | omega | (simp; done) | (simp; omega)) _) | (refine Below.setCell ?_ (by first | omega | (simp; done) | (simp; omega)) _) | (refine Below.drew ?_) | (refine Below.drewN ?_ _) | (refine Below.next (by assumption) ?_ (by first | omega | (simp; done) | (simp; omega)))))⟩

set_option maxRecDepth 100000 in
set_option maxHeartbeats 3200000 in
theorem spec_EntryTimes_any (A : Option Addr) (c : Nat) (L : List Ms) (n : Int) (B : Option Addr) (d : Nat) (O : List Int) (w : World) (hm : Mem w A (measures L)) (hn : Mem w B (ints O)) (hl : L.length ≤ 1048576) (hl2 : O.length ≤ 1048576) : Calls Try.prog 66 #[.slice A L.length c, .int .i64 n, .slice B O.length d] w
    (RetInts w (etV L n O) (etOk L n O)) := by
  obtain ⟨i0, hi, hz0, hz1, hz2⟩ := info_parts info_int
  cases h1 : musHas L n
  · go_enter Try.func66, Try.ntmps66
    go_wp2_with (first | (go_at_call 109; refine (muHas_any _ _ L n _ (hm.below (by (repeat (first | exact Below.refl _ _ | assumption | (refine Below.alloc ?_ (by first | omega | (simp; done) | (simp; omega)) _) | (refine Below.setCell ?_ (by first | omega | (simp; done) | (simp; omega)) _) | (refine Below.drew ?_) | (refine Below.drewN ?_ _) | (refine Below.next (by assumption) ?_ (by first | omega | (simp; done) | (simp; omega))))))) hl).mono ?_; rintro e w' ⟨rfl, hq⟩; obtain ⟨hz, hc, hf⟩ := bel hq; (try simp at hz); (try have gz1 : w.heap.size < w'.heap.size := by omega); (try have gz2 : w.heap.size + 1 < w'.heap.size := by omega); (try have gz3 : wr.heap.size < w'.heap.size := by omega)) | (go_at_call 102; refine (lsOffsets_any _ _ O _ (hn.below (by (repeat (first | exact Below.refl _ _ | assumption | (refine Below.alloc ?_ (by first | omega | (simp; done) | (simp; omega)) _) | (refine Below.setCell ?_ (by first | omega | (simp; done) | (simp; omega)) _) | (refine Below.drew ?_) | (refine Below.drewN ?_ _) | (refine Below.next (by assumption) ?_ (by first | omega | (simp; done) | (simp; omega))))))) hl2).mono ?_; rintro e w' ⟨rfl, rfl⟩))
    go_ret2
    exact RetInts.none_ (by simp [etV, etOk, h1]) (by simp [etOk, h1]) (by (repeat (first | exact Below.refl _ _ | assumption | (refine Below.alloc ?_ (by first | omega | (simp; done) | (simp; omega)) _) | (refine Below.setCell ?_ (by first | omega | (simp; done) | (simp; omega)) _) | (refine Below.drew ?_) | (refine Below.drewN ?_ _) | (refine Below.next (by assumption) ?_ (by first | omega | (simp; done) | (simp; omega))))))
  cases h2 : offOk O
  · go_enter Try.func66, Try.ntmps66
    go_wp2_with (first | (go_at_call 109; refine (muHas_any _ _ L n _ (hm.below (by (repeat (first | exact Below.refl _ _ | assumption | (refine Below.alloc ?_ (by first | omega | (simp; done) | (simp; omega)) _) | (refine Below.setCell ?_ (by first | omega | (simp; done) | (simp; omega)) _) | (refine Below.drew ?_) | (refine Below.drewN ?_ _) | (refine Below.next (by assumption) ?_ (by first | omega | (simp; done) | (simp; omega))))))) hl).mono ?_; rintro e w' ⟨rfl, hq⟩; obtain ⟨hz, hc, hf⟩ := bel hq; (try simp at hz); (try have gz1 : w.heap.size < w'.heap.size := by omega); (try have gz2 : w.heap.size + 1 < w'.heap.size := by omega); (try have gz3 : wr.heap.size < w'.heap.size := by omega)) | (go_at_call 102; refine (lsOffsets_any _ _ O _ (hn.below (by (repeat (first | exact Below.refl _ _ | assumption | (refine Below.alloc ?_ (by first | omega | (simp; done) | (simp; omega)) _) | (refine Below.setCell ?_ (by first | omega | (simp; done) | (simp; omega)) _) | (refine Below.drew ?_) | (refine Below.drewN ?_ _) | (refine Below.next (by assumption) ?_ (by first | omega | (simp; done) | (simp; omega))))))) hl2).mono ?_; rintro e w' ⟨rfl, rfl⟩))
    go_ret2
    exact RetInts.none_ (by simp [etV, etOk, h2]) (by simp [etOk, h2]) (by (repeat (first | exact Below.refl _ _ | assumption | (refine Below.alloc ?_ (by first | omega | (simp; done) | (simp; omega)) _) | (refine Below.setCell ?_ (by first | omega | (simp; done) | (simp; omega)) _) | (refine Below.drew ?_) | (refine Below.drewN ?_ _) | (refine Below.next (by assumption) ?_ (by first | omega | (simp; done) | (simp; omega))))))
  have h1' := h1
  simp only [musHas, Bool.and_eq_true] at h1'
  obtain ⟨g1, g2, g3⟩ := musOk_iff.1 h1'.1
  have hbc := cnTo_bd g1 L.length (Nat.le_refl _)
  have hnr := inR_iff.1 h1'.2
  have hof := off_all h2
  have hl40 := (offOk_len h2).2.2
  have hbd := muT_bd L n g1 (by omega)
  have HO := Lib.hid hof
  have HOK : Hid (etOk L n O = (ents L n O).all isTm) := Lib.hid (by simp [etOk, h1, h2])
  go_enter Try.func66, Try.ntmps66
  go_wp2_with (first | (go_at_call 109; refine (muHas_any _ _ L n _ (hm.below (by (repeat (first | exact Below.refl _ _ | assumption | (refine Below.alloc ?_ (by first | omega | (simp; done) | (simp; omega)) _) | (refine Below.setCell ?_ (by first | omega | (simp; done) | (simp; omega)) _) | (refine Below.drew ?_) | (refine Below.drewN ?_ _) | (refine Below.next (by assumption) ?_ (by first | omega | (simp; done) | (simp; omega))))))) hl).mono ?_; rintro e w' ⟨rfl, hq⟩; obtain ⟨hz, hc, hf⟩ := bel hq; (try simp at hz); (try have gz1 : w.heap.size < w'.heap.size := by omega); (try have gz2 : w.heap.size + 1 < w'.heap.size := by omega); (try have gz3 : wr.heap.size < w'.heap.size := by omega)) | (go_at_call 102; refine (lsOffsets_any _ _ O _ (hn.below (by assumption)) hl2).mono ?_; rintro e w'' ⟨rfl, rfl⟩))
  have hb2 : Below w.heap.size w w' := by (repeat (first | exact Below.refl _ _ | assumption | (refine Below.alloc ?_ (by first | omega | (simp; done) | (simp; omega)) _) | (refine Below.setCell ?_ (by first | omega | (simp; done) | (simp; omega)) _) | (refine Below.drew ?_) | (refine Below.drewN ?_ _) | (refine Below.next (by assumption) ?_ (by first | omega | (simp; done) | (simp; omega)))))
  have hz9 := hb2.size
  clear hq hz hc hf h1 h2 hof h1'
  go_loopw [8, 10, 11, 23] (fun v _ _ i wr => ∃ k : Nat, k ≤ O.length ∧ i = .int .i64 k ∧ wr.ownsRow w.heap.size 3 1 v k (ints ((ents L n O).take k)) ∧ Hid (((ents L n O).take k).all isTm = true) ∧ Below w.heap.size w wr) (fun _ _ _ i _ => O.length - (intOf i).toNat)
  case atStart => exact ⟨0, by omega, rfl, by simpa [ints] using World.ownsRow_nil _ _ _ _, all_take_zero _ _, hb2⟩
  case round =>
    obtain ⟨k, hk, rfl, hown, H, hb⟩ := hrel
    have hsz := hb.size
    by_cases hlt : k < O.length
    · obtain ⟨o, ho⟩ := some_of_lt hlt
      obtain ⟨b, off, rfl, e1⟩ := (hn.below hb).int ho
      have hob := HO.out o (List.mem_of_getElem? ho)
      have HE := Lib.hid (ents_take (L := L) (n := n) ho)
      have HA := Lib.hid (ents_at (L := L) (n := n) ho)
      have HW := Lib.hid hown
      clear ho hown
      by_cases hneg : muT L n + o < 0
      · go_wp2_with fail
        refine (muTime_any _ _ L n _ (hm.below (by (repeat (first | exact Below.refl _ _ | assumption | (refine Below.alloc ?_ (by first | omega | (simp; done) | (simp; omega)) _) | (refine Below.setCell ?_ (by first | omega | (simp; done) | (simp; omega)) _) | (refine Below.drew ?_) | (refine Below.drewN ?_ _) | (refine Below.next (by assumption) ?_ (by first | omega | (simp; done) | (simp; omega))))))) (by omega) g1 (by omega) (by omega)).mono ?_
        rintro e w1 ⟨rfl, hq⟩
        have HN : Hid (etOk L n O = false) := Lib.hid (by rw [HOK.out]; exact all_no HA (by simp [isTm]; omega))
        go_wp2
        go_ret2
        exact RetInts.none_ (by simp [etV, HN.out]) HN.out (by (repeat (first | exact Below.refl _ _ | assumption | (refine Below.alloc ?_ (by first | omega | (simp; done) | (simp; omega)) _) | (refine Below.setCell ?_ (by first | omega | (simp; done) | (simp; omega)) _) | (refine Below.drew ?_) | (refine Below.drewN ?_ _) | (refine Below.next (by assumption) ?_ (by first | omega | (simp; done) | (simp; omega))))))
      · go_wp2_with fail
        refine (muTime_any _ _ L n _ (hm.below (by (repeat (first | exact Below.refl _ _ | assumption | (refine Below.alloc ?_ (by first | omega | (simp; done) | (simp; omega)) _) | (refine Below.setCell ?_ (by first | omega | (simp; done) | (simp; omega)) _) | (refine Below.drew ?_) | (refine Below.drewN ?_ _) | (refine Below.next (by assumption) ?_ (by first | omega | (simp; done) | (simp; omega))))))) (by omega) g1 (by omega) (by omega)).mono ?_
        rintro e w1 ⟨rfl, hq⟩
        have ho := own_below HW.out hq
        have hsz1 : wr.heap.size ≤ w1.heap.size := hq.size
        have hB1 : Below w.heap.size w w1 := by (repeat (first | exact Below.refl _ _ | assumption | (refine Below.alloc ?_ (by first | omega | (simp; done) | (simp; omega)) _) | (refine Below.setCell ?_ (by first | omega | (simp; done) | (simp; omega)) _) | (refine Below.drew ?_) | (refine Below.drewN ?_ _) | (refine Below.next (by assumption) ?_ (by first | omega | (simp; done) | (simp; omega)))))
        have HO2 := Lib.hid ho
        have HB := Lib.hid hB1
        clear ho hq hb hB1 e1
        go_wp2_with (at_builtin; refine wpList_append_one _ rfl (.tmp 34) (.tmp 36) 35 rfl w.heap.size 3 i0 (.int .i64 0) 1 8 Try.underlying35 hi hz0 hz1 hz2 rfl (by omega) _ _ _ rfl HO2.out _ _ _ rfl rfl rfl (by omega) (by omega) (by omega) ?_; intro v' w2 hown' hb2)
        go_roundw
        case rel => exact ⟨k + 1, by omega, by go_num, by rw [HE.out, ints_snoc]; exact hown', all_take_succ H HA (by simp [isTm]; omega), HB.out.trans hb2⟩
        case measure => simp [intOf]; omega
    · go_wp2
      go_ret2
      have e1 : k = O.length := by omega
      subst e1
      have HN : Hid (etOk L n O = true) := Lib.hid (by rw [HOK.out]; exact all_yes H (by rw [ents_len]; omega))
      rw [List.take_of_length_le (by rw [ents_len]; omega)] at hown
      exact RetInts.some_ HN.out (by simp [etV, HN.out]) hown (ents_len L n O).symm (by omega) (by (repeat (first | exact Below.refl _ _ | assumption | (refine Below.alloc ?_ (by first | omega | (simp; done) | (simp; omega)) _) | (refine Below.setCell ?_ (by first | omega | (simp; done) | (simp; omega)) _) | (refine Below.drew ?_) | (refine Below.drewN ?_ _) | (refine Below.next (by assumption) ?_ (by first | omega | (simp; done) | (simp; omega))))))

set_option maxRecDepth 100000 in
set_option maxHeartbeats 3200000 in
theorem impl_EntryTimes_any (A : Option Addr) (c : Nat) (L : List Ms) (n : Int) (B : Option Addr) (d : Nat) (O : List Int) (w : World) (hm : Mem w A (measures L)) (hn : Mem w B (ints O)) (hl : L.length ≤ 1048576) (hl2 : O.length ≤ 1048576) : Calls Try.prog 65 #[.slice A L.length c, .int .i64 n, .slice B O.length d] w
    (RetInts w (etV L n O) (etOk L n O)) := by
  obtain ⟨i0, hi, hz0, hz1, hz2⟩ := info_parts info_int
  cases h1 : musOk L
  · go_enter Try.func65, Try.ntmps65
    go_wp2_with (go_at_call 106; refine (IsMusic_any _ _ L _ (hm.below (by (repeat (first | exact Below.refl _ _ | assumption | (refine Below.alloc ?_ (by first | omega | (simp; done) | (simp; omega)) _) | (refine Below.setCell ?_ (by first | omega | (simp; done) | (simp; omega)) _) | (refine Below.drew ?_) | (refine Below.drewN ?_ _) | (refine Below.next (by assumption) ?_ (by first | omega | (simp; done) | (simp; omega))))))) hl).mono ?_; rintro e w' ⟨rfl, hq⟩; obtain ⟨hz, hc, hf⟩ := bel hq; (try simp at hz); (try have gz1 : w.heap.size < w'.heap.size := by omega); (try have gz2 : w.heap.size + 1 < w'.heap.size := by omega); (try have gz3 : wr.heap.size < w'.heap.size := by omega))
    go_ret2
    exact RetInts.none_ (by simp [etV, etOk, musHas, h1]) (by simp [etOk, musHas, h1]) (by (repeat (first | exact Below.refl _ _ | assumption | (refine Below.alloc ?_ (by first | omega | (simp; done) | (simp; omega)) _) | (refine Below.setCell ?_ (by first | omega | (simp; done) | (simp; omega)) _) | (refine Below.drew ?_) | (refine Below.drewN ?_ _) | (refine Below.next (by assumption) ?_ (by first | omega | (simp; done) | (simp; omega))))))
  obtain ⟨g1, g2, g3⟩ := musOk_iff.1 h1
  have hbc := cnTo_bd g1 L.length (Nat.le_refl _)
  cases h3 : inR n 0 (cnTo L L.length - 1)
  · go_enter Try.func65, Try.ntmps65
    go_wp2_with (first | (go_at_call 106; refine (IsMusic_any _ _ L _ (hm.below (by (repeat (first | exact Below.refl _ _ | assumption | (refine Below.alloc ?_ (by first | omega | (simp; done) | (simp; omega)) _) | (refine Below.setCell ?_ (by first | omega | (simp; done) | (simp; omega)) _) | (refine Below.drew ?_) | (refine Below.drewN ?_ _) | (refine Below.next (by assumption) ?_ (by first | omega | (simp; done) | (simp; omega))))))) hl).mono ?_; rintro e w' ⟨rfl, hq⟩; obtain ⟨hz, hc, hf⟩ := bel hq; (try simp at hz); (try have gz1 : w.heap.size < w'.heap.size := by omega); (try have gz2 : w.heap.size + 1 < w'.heap.size := by omega); (try have gz3 : wr.heap.size < w'.heap.size := by omega)) | (go_at_call 107; refine (countsOf_any _ _ L _ (hm.below (by (repeat (first | exact Below.refl _ _ | assumption | (refine Below.alloc ?_ (by first | omega | (simp; done) | (simp; omega)) _) | (refine Below.setCell ?_ (by first | omega | (simp; done) | (simp; omega)) _) | (refine Below.drew ?_) | (refine Below.drewN ?_ _) | (refine Below.next (by assumption) ?_ (by first | omega | (simp; done) | (simp; omega))))))) (by omega) g1).mono ?_; rintro e w2 ⟨rfl, hq2⟩; have hz2' := hq2.size) | (go_at_call 78; refine (within_any _ _ _ _).mono ?_; rintro e w' ⟨rfl, rfl⟩) | (go_at_call 50; refine (impl_AreOffsets_any _ _ O _ (hn.below (by (repeat (first | exact Below.refl _ _ | assumption | (refine Below.alloc ?_ (by first | omega | (simp; done) | (simp; omega)) _) | (refine Below.setCell ?_ (by first | omega | (simp; done) | (simp; omega)) _) | (refine Below.drew ?_) | (refine Below.drewN ?_ _) | (refine Below.next (by assumption) ?_ (by first | omega | (simp; done) | (simp; omega))))))) hl2).mono ?_; rintro e w3 ⟨rfl, rfl⟩))
    go_ret2
    exact RetInts.none_ (by simp [etV, etOk, musHas, h3]) (by simp [etOk, musHas, h3]) (by (repeat (first | exact Below.refl _ _ | assumption | (refine Below.alloc ?_ (by first | omega | (simp; done) | (simp; omega)) _) | (refine Below.setCell ?_ (by first | omega | (simp; done) | (simp; omega)) _) | (refine Below.drew ?_) | (refine Below.drewN ?_ _) | (refine Below.next (by assumption) ?_ (by first | omega | (simp; done) | (simp; omega))))))
  cases h2 : offOk O
  · go_enter Try.func65, Try.ntmps65
    go_wp2_with (first | (go_at_call 106; refine (IsMusic_any _ _ L _ (hm.below (by (repeat (first | exact Below.refl _ _ | assumption | (refine Below.alloc ?_ (by first | omega | (simp; done) | (simp; omega)) _) | (refine Below.setCell ?_ (by first | omega | (simp; done) | (simp; omega)) _) | (refine Below.drew ?_) | (refine Below.drewN ?_ _) | (refine Below.next (by assumption) ?_ (by first | omega | (simp; done) | (simp; omega))))))) hl).mono ?_; rintro e w' ⟨rfl, hq⟩; obtain ⟨hz, hc, hf⟩ := bel hq; (try simp at hz); (try have gz1 : w.heap.size < w'.heap.size := by omega); (try have gz2 : w.heap.size + 1 < w'.heap.size := by omega); (try have gz3 : wr.heap.size < w'.heap.size := by omega)) | (go_at_call 107; refine (countsOf_any _ _ L _ (hm.below (by (repeat (first | exact Below.refl _ _ | assumption | (refine Below.alloc ?_ (by first | omega | (simp; done) | (simp; omega)) _) | (refine Below.setCell ?_ (by first | omega | (simp; done) | (simp; omega)) _) | (refine Below.drew ?_) | (refine Below.drewN ?_ _) | (refine Below.next (by assumption) ?_ (by first | omega | (simp; done) | (simp; omega))))))) (by omega) g1).mono ?_; rintro e w2 ⟨rfl, hq2⟩; have hz2' := hq2.size) | (go_at_call 78; refine (within_any _ _ _ _).mono ?_; rintro e w' ⟨rfl, rfl⟩) | (go_at_call 50; refine (impl_AreOffsets_any _ _ O _ (hn.below (by (repeat (first | exact Below.refl _ _ | assumption | (refine Below.alloc ?_ (by first | omega | (simp; done) | (simp; omega)) _) | (refine Below.setCell ?_ (by first | omega | (simp; done) | (simp; omega)) _) | (refine Below.drew ?_) | (refine Below.drewN ?_ _) | (refine Below.next (by assumption) ?_ (by first | omega | (simp; done) | (simp; omega))))))) hl2).mono ?_; rintro e w3 ⟨rfl, rfl⟩))
    go_ret2
    exact RetInts.none_ (by simp [etV, etOk, h2]) (by simp [etOk, h2]) (by (repeat (first | exact Below.refl _ _ | assumption | (refine Below.alloc ?_ (by first | omega | (simp; done) | (simp; omega)) _) | (refine Below.setCell ?_ (by first | omega | (simp; done) | (simp; omega)) _) | (refine Below.drew ?_) | (refine Below.drewN ?_ _) | (refine Below.next (by assumption) ?_ (by first | omega | (simp; done) | (simp; omega))))))
  have hnr := inR_iff.1 h3
  have hof := off_all h2
  have hl40 := (offOk_len h2).2.2
  have hbd := muT_bd L n g1 (by omega)
  have HO := Lib.hid hof
  have HOK : Hid (etOk L n O = (ents L n O).all isTm) := Lib.hid (by simp [etOk, musHas, h1, h2, h3])
  go_enter Try.func65, Try.ntmps65
  go_wp2_with (first | (go_at_call 106; refine (IsMusic_any _ _ L _ (hm.below (by (repeat (first | exact Below.refl _ _ | assumption | (refine Below.alloc ?_ (by first | omega | (simp; done) | (simp; omega)) _) | (refine Below.setCell ?_ (by first | omega | (simp; done) | (simp; omega)) _) | (refine Below.drew ?_) | (refine Below.drewN ?_ _) | (refine Below.next (by assumption) ?_ (by first | omega | (simp; done) | (simp; omega))))))) hl).mono ?_; rintro e w' ⟨rfl, hq⟩; obtain ⟨hz, hc, hf⟩ := bel hq; (try simp at hz); (try have gz1 : w.heap.size < w'.heap.size := by omega); (try have gz2 : w.heap.size + 1 < w'.heap.size := by omega); (try have gz3 : wr.heap.size < w'.heap.size := by omega)) | (go_at_call 107; refine (countsOf_any _ _ L _ (hm.below (by (repeat (first | exact Below.refl _ _ | assumption | (refine Below.alloc ?_ (by first | omega | (simp; done) | (simp; omega)) _) | (refine Below.setCell ?_ (by first | omega | (simp; done) | (simp; omega)) _) | (refine Below.drew ?_) | (refine Below.drewN ?_ _) | (refine Below.next (by assumption) ?_ (by first | omega | (simp; done) | (simp; omega))))))) (by omega) g1).mono ?_; rintro e w2 ⟨rfl, hq2⟩; have hz2' := hq2.size) | (go_at_call 78; refine (within_any _ _ _ _).mono ?_; rintro e w' ⟨rfl, rfl⟩) | (go_at_call 50; refine (impl_AreOffsets_any _ _ O _ (hn.below (by (repeat (first | exact Below.refl _ _ | assumption | (refine Below.alloc ?_ (by first | omega | (simp; done) | (simp; omega)) _) | (refine Below.setCell ?_ (by first | omega | (simp; done) | (simp; omega)) _) | (refine Below.drew ?_) | (refine Below.drewN ?_ _) | (refine Below.next (by assumption) ?_ (by first | omega | (simp; done) | (simp; omega))))))) hl2).mono ?_; rintro e w3 ⟨rfl, rfl⟩))
  have hb2 : Below w.heap.size w w2 := by (repeat (first | exact Below.refl _ _ | assumption | (refine Below.alloc ?_ (by first | omega | (simp; done) | (simp; omega)) _) | (refine Below.setCell ?_ (by first | omega | (simp; done) | (simp; omega)) _) | (refine Below.drew ?_) | (refine Below.drewN ?_ _) | (refine Below.next (by assumption) ?_ (by first | omega | (simp; done) | (simp; omega)))))
  have hz9 := hb2.size
  clear hq hz hc hf h1 h2 hof h3 hq2
  go_loopw [8, 10, 11, 31] (fun v _ _ i wr => ∃ k : Nat, k ≤ O.length ∧ i = .int .i64 k ∧ wr.ownsRow w.heap.size 3 1 v k (ints ((ents L n O).take k)) ∧ Hid (((ents L n O).take k).all isTm = true) ∧ Below w.heap.size w wr) (fun _ _ _ i _ => O.length - (intOf i).toNat)
  case atStart => exact ⟨0, by omega, rfl, by simpa [ints] using own_empty 3 1 rfl (by omega) rfl, all_take_zero _ _, by (repeat (first | exact Below.refl _ _ | assumption | (refine Below.alloc ?_ (by first | omega | (simp; done) | (simp; omega)) _) | (refine Below.setCell ?_ (by first | omega | (simp; done) | (simp; omega)) _) | (refine Below.drew ?_) | (refine Below.drewN ?_ _) | (refine Below.next (by assumption) ?_ (by first | omega | (simp; done) | (simp; omega)))))⟩
  case round =>
    obtain ⟨k, hk, rfl, hown, H, hb⟩ := hrel
    have hsz := hb.size
    by_cases hlt : k < O.length
    · obtain ⟨o, ho⟩ := some_of_lt hlt
      obtain ⟨b, off, rfl, e1⟩ := (hn.below hb).int ho
      have hob := HO.out o (List.mem_of_getElem? ho)
      have HE := Lib.hid (ents_take (L := L) (n := n) ho)
      have HA := Lib.hid (ents_at (L := L) (n := n) ho)
      have HW := Lib.hid hown
      clear ho hown
      by_cases hneg : muT L n + o < 0
      · go_wp2_with fail
        refine (timeOf_any _ _ L n _ (hm.below (by (repeat (first | exact Below.refl _ _ | assumption | (refine Below.alloc ?_ (by first | omega | (simp; done) | (simp; omega)) _) | (refine Below.setCell ?_ (by first | omega | (simp; done) | (simp; omega)) _) | (refine Below.drew ?_) | (refine Below.drewN ?_ _) | (refine Below.next (by assumption) ?_ (by first | omega | (simp; done) | (simp; omega))))))) (by omega) g1 (by omega) (by omega)).mono ?_
        rintro e w1 ⟨rfl, hq⟩
        have HN : Hid (etOk L n O = false) := Lib.hid (by rw [HOK.out]; exact all_no HA (by simp [isTm]; omega))
        go_wp2
        go_ret2
        exact RetInts.none_ (by simp [etV, HN.out]) HN.out (by (repeat (first | exact Below.refl _ _ | assumption | (refine Below.alloc ?_ (by first | omega | (simp; done) | (simp; omega)) _) | (refine Below.setCell ?_ (by first | omega | (simp; done) | (simp; omega)) _) | (refine Below.drew ?_) | (refine Below.drewN ?_ _) | (refine Below.next (by assumption) ?_ (by first | omega | (simp; done) | (simp; omega))))))
      · go_wp2_with fail
        refine (timeOf_any _ _ L n _ (hm.below (by (repeat (first | exact Below.refl _ _ | assumption | (refine Below.alloc ?_ (by first | omega | (simp; done) | (simp; omega)) _) | (refine Below.setCell ?_ (by first | omega | (simp; done) | (simp; omega)) _) | (refine Below.drew ?_) | (refine Below.drewN ?_ _) | (refine Below.next (by assumption) ?_ (by first | omega | (simp; done) | (simp; omega))))))) (by omega) g1 (by omega) (by omega)).mono ?_
        rintro e w1 ⟨rfl, hq⟩
        have ho := own_below HW.out hq
        have hsz1 : wr.heap.size ≤ w1.heap.size := hq.size
        have hB1 : Below w.heap.size w w1 := by (repeat (first | exact Below.refl _ _ | assumption | (refine Below.alloc ?_ (by first | omega | (simp; done) | (simp; omega)) _) | (refine Below.setCell ?_ (by first | omega | (simp; done) | (simp; omega)) _) | (refine Below.drew ?_) | (refine Below.drewN ?_ _) | (refine Below.next (by assumption) ?_ (by first | omega | (simp; done) | (simp; omega)))))
        have HO2 := Lib.hid ho
        have HB := Lib.hid hB1
        clear ho hq hb hB1 e1
        go_wp2_with (at_builtin; refine wpList_append_one _ rfl (.tmp 42) (.tmp 44) 35 rfl w.heap.size 3 i0 (.int .i64 0) 1 8 Try.underlying35 hi hz0 hz1 hz2 rfl (by omega) _ _ _ rfl HO2.out _ _ _ rfl rfl rfl (by omega) (by omega) (by omega) ?_; intro v' w2 hown' hb2)
        go_roundw
        case rel => exact ⟨k + 1, by omega, by go_num, by rw [HE.out, ints_snoc]; exact hown', all_take_succ H HA (by simp [isTm]; omega), HB.out.trans hb2⟩
        case measure => simp [intOf]; omega
    · go_wp2
      go_ret2
      have e1 : k = O.length := by omega
      subst e1
      have HN : Hid (etOk L n O = true) := Lib.hid (by rw [HOK.out]; exact all_yes H (by rw [ents_len]; omega))
      rw [List.take_of_length_le (by rw [ents_len]; omega)] at hown
      exact RetInts.some_ HN.out (by simp [etV, HN.out]) hown (ents_len L n O).symm (by omega) (by (repeat (first | exact Below.refl _ _ | assumption | (refine Below.alloc ?_ (by first | omega | (simp; done) | (simp; omega)) _) | (refine Below.setCell ?_ (by first | omega | (simp; done) | (simp; omega)) _) | (refine Below.drew ?_) | (refine Below.drewN ?_ _) | (refine Below.next (by assumption) ?_ (by first | omega | (simp; done) | (simp; omega))))))

end Go.Proofs.Ytdipmjflgjlfeaa
