/-
  The laws' own functions on slices of slices of spots.
-/
import Derived.Test.YtbgbcajcajaocaaGr
import Derived.Test.YtbgbcajcajaocaaHsp
namespace Go.Proofs.Ytbgbcajcajaocaa
open Go.RowKit Go.Sort Go.Lib

theorem ret_intG {a b : Int} (h : a = b) : Ending.returned (.int .i64 a) = Ending.returned (.int .i64 b) := by rw [h]
def szV (n : Nat) (G : List (List Sp)) (left : Int) : Int := if (n : Int) + tot G ≤ left then left - n - tot G else -1
set_option maxRecDepth 100000 in
theorem szSpotSS_any (A : Option Addr) (c : Nat) (hs : List (Hdr Sp)) (left : Int) (w : World) (hm : Mem w A (hcs hs)) (hl : hs.length ≤ 9223372036854775807) (hr : ∀ (k : Nat) (h : Hdr Sp), hs[k]? = some h → h.L.length ≤ 9223372036854775807) (h0 : 0 ≤ left) (h1 : left ≤ 1048576) : Calls Try.prog 6 #[.slice A hs.length c, .int .i64 left] w fun e w' => e = .returned (.int .i64 (szV hs.length (lns hs) left)) ∧ w = w' := by
  have HR := Lib.hid hr
  clear hr
  by_cases hlen : left < (hs.length : Int)
  · have HV := Lib.hid (show szV hs.length (lns hs) left = -1 from if_neg (by omega))
    go_enter Try.func6, Try.ntmps6
    go_wp2
    go_ret
    exact ⟨ret_intG HV.out.symm, rfl⟩
  · go_enter Try.func6, Try.ntmps6
    go_wp2
    go_loop [1, 5] (fun lv i => ∃ k : Nat, k ≤ hs.length ∧ i = .int .i64 k ∧ lv = .int .i64 (left - hs.length - totTo (lns hs) k) ∧ (hs.length : Int) + totTo (lns hs) k ≤ left) (fun _ i => hs.length - (intOf i).toNat)
    case atStart => exact ⟨0, by omega, rfl, by simp [totTo], by simp [totTo]; omega⟩
    case round =>
      obtain ⟨k, hk, rfl, rfl, hle⟩ := hrel
      by_cases hlt : k < hs.length
      · obtain ⟨h, hh⟩ := some_of_lt hlt
        obtain ⟨b, off, rfl, c1⟩ := hdr_cell hm hh
        have HTS := Lib.hid (totTo_succ (lns_at hh))
        have HTR := Lib.hid (tot_row (lns_at hh))
        have hll := HR.out k h hh
        clear hh
        by_cases hc : (h.L.length : Int) ≤ left - hs.length - totTo (lns hs) k
        · go_wp2_with fail
          refine (szSpotS_yes _ _ _ _ _ hc (by omega) (by omega)).mono ?_
          rintro e w' ⟨rfl, rfl⟩
          go_wp2
          go_round
          case rel => exact ⟨k + 1, by omega, by go_num, by rw [HTS.out]; go_num, by rw [HTS.out]; omega⟩
          case measure => simp [intOf]; omega
        · go_wp2_with fail
          refine (szSpotS_no _ _ _ _ _ (by omega) hll (by omega) (by omega)).mono ?_
          rintro e w' ⟨rfl, rfl⟩
          go_wp2
          go_ret
          exact ⟨ret_intG (show (-1 : Int) = szV hs.length (lns hs) left from (if_neg (by have := HTR.out; omega)).symm), rfl⟩
      · have e1 : k = hs.length := by omega
        subst e1
        have HV := Lib.hid (show left - (hs.length : Int) - (totTo (lns hs) hs.length : Int) = szV hs.length (lns hs) left by
          have e : tot (lns hs) = totTo (lns hs) hs.length := by rw [tot, lns_len]
          rw [szV, e, if_pos (by omega)])
        go_wp2
        go_ret
        exact ⟨ret_intG HV.out, rfl⟩

theorem info_spotss : (Try.prog.info? 59).map (fun i => (i.zero, i.size, i.bytes)) = some (some (.slice none 0 0), 1, 24) := by kernel_rfl
def hz : Hdr Sp := ⟨none, 0, []⟩
theorem hz_made (n : Nat) : (madeCells #[.slice none 0 0] (n * 1)).toList = hcs (List.replicate n hz) := made_flat (fun h : Hdr Sp => [Value.slice h.A h.L.length h.c]) 1 hz (by omega) (fun _ => rfl) n
theorem rep_set {α : Type} (gs : List α) (z x : α) (n k : Nat) (h : gs.length = k) (hk : k < n) : (gs ++ List.replicate (n - k) z).set k x = (gs ++ [x]) ++ List.replicate (n - (k + 1)) z := by
  rw [List.set_append_right _ _ (by omega), h, Nat.sub_self, show n - k = (n - (k + 1)) + 1 by omega, List.replicate_succ, List.set_cons_zero]
  simp
/-- Rows made one behind the other, in blocks from B on. -/
structure RowsUp (w : World) (B : Nat) (gs : List (Hdr Sp)) : Prop where
  row : ∀ (j : Nat) (h : Hdr Sp), gs[j]? = some h → w.ownsRow B 26 2 (.slice h.A h.L.length h.c) h.L.length (spots h.L)
  up : ∀ (i j : Nat) (h h' : Hdr Sp), i < j → gs[i]? = some h → gs[j]? = some h' → ∀ b b', (hv h).ownBlock = some b → (hv h').ownBlock = some b' → b < b'
theorem RowsUp.below {w w' : World} {B : Nat} {gs : List (Hdr Sp)} (h : RowsUp w B gs) (hb : Below w.heap.size w w') : RowsUp w' B gs :=
  ⟨fun j x hx => own_below (h.row j x hx) hb, h.up⟩
theorem RowsUp.same {w w' : World} {B : Nat} {gs : List (Hdr Sp)} (h : RowsUp w B gs) (hs : ∀ b, B ≤ b → b < w.heap.size → w'.heap[b]? = w.heap[b]?) : RowsUp w' B gs :=
  ⟨fun j x hx => own_same (h.row j x hx) (fun g hg => hs g ((h.row j x hx).lt g hg).1 ((h.row j x hx).lt g hg).2), h.up⟩
theorem RowsUp.nil (w : World) (B : Nat) : RowsUp w B [] := ⟨fun j h e => by simp at e, fun i j h h' _ e => by simp at e⟩
theorem get_snoc {α : Type} {gs : List α} {x y : α} {j : Nat} (e : (gs ++ [x])[j]? = some y) : gs[j]? = some y ∨ (j = gs.length ∧ y = x) := by
  by_cases h : j < gs.length
  · rw [List.getElem?_append_left h] at e
    exact .inl e
  · rw [List.getElem?_append_right (by omega)] at e
    have h0 : j - gs.length = 0 := by
      rcases Nat.eq_zero_or_pos (j - gs.length) with h | h
      · exact h
      · rw [List.getElem?_eq_none (by simp; omega)] at e; cases e
    rw [h0] at e
    simp at e
    exact .inr ⟨by omega, e.symm⟩
theorem RowsUp.snoc {w w' : World} {B : Nat} {gs : List (Hdr Sp)} {x : Hdr Sp} (h : RowsUp w B gs) (hb : Below w.heap.size w w') (hx : w'.ownsRow w.heap.size 26 2 (.slice x.A x.L.length x.c) x.L.length (spots x.L)) (hB : B ≤ w.heap.size) : RowsUp w' B (gs ++ [x]) := by
  refine ⟨fun j y hy => ?_, fun i j y y' hij hi hj b b' h1 h2 => ?_⟩
  · rcases get_snoc hy with hy | ⟨_, rfl⟩
    · exact own_below (h.row j y hy) hb
    · exact own_base hx hB
  · have hjl := (List.getElem?_eq_some_iff.1 hj).1
    rw [List.length_append, List.length_singleton] at hjl
    have hi' : gs[i]? = some y := by rw [List.getElem?_append_left (by omega)] at hi; exact hi
    rcases get_snoc hj with hj | ⟨_, rfl⟩
    · exact h.up i j y y' hij hi' hj b b' h1 h2
    · have g1 := ((h.row i y hi').lt b h1).2
      have g2 := (hx.lt b' h2).1
      omega
theorem RowsUp.gown {w : World} {g : Nat} {c n : Nat} {gs : List (Hdr Sp)} (h : RowsUp w (g + 1) gs) (hl : gs.length = n) (ho : w.ownsRow g 59 1 (.slice (some ⟨g, 0, none⟩) n c) n (hcs gs)) : GOwn w g w.heap.size (some ⟨g, 0, none⟩) c n gs (rowOf gs) := by
  refine ⟨hl, ho, fun b hb => (ho.lt b hb).2, fun k x hx => ⟨?_, fun b hb => ⟨((h.row k x hx).lt b hb).2, ?_⟩⟩, fun i j x y hij hi hj b hb hb2 => ?_, Nat.le_refl _⟩
  · rw [rowOf_at hx]
    exact own_base (h.row k x hx) (by omega)
  · have g1 := ((h.row k x hx).lt b hb).1
    intro e
    have e2 : g = b := Option.some.inj e
    omega
  · rcases Nat.lt_or_gt_of_ne hij with h1 | h1
    · have := h.up i j x y h1 hi hj b b hb hb2; omega
    · have := h.up j i y x h1 hj hi b b hb2 hb; omega
set_option maxHeartbeats 1600000 in
set_option maxRecDepth 100000 in
theorem toSpotSS_any (A : Option Addr) (c : Nat) (hs : List (Hdr Sp)) (w : World) (hm : Grid w A hs) (hl : hs.length ≤ 1048576) (hr : ∀ (k : Nat) (h : Hdr Sp), hs[k]? = some h → h.L.length ≤ 1048576) : Calls Try.prog 8 #[.slice A hs.length c] w fun e w' =>
    ∃ A' c' hs', e = .returned (.slice A' hs.length c') ∧ lns hs' = lns hs ∧ GOwn w' w.heap.size w'.heap.size A' c' hs.length hs' (rowOf hs') ∧ Below w.heap.size w w' := by
  obtain ⟨i0, hi, hz0, hz1, hz2⟩ := info_parts info_spotss
  have HR := Lib.hid hr
  clear hr
  go_enter Try.func8, Try.ntmps8
  go_wp2_with (at_make; refine wpList_make_full _ rfl _ _ 32 rfl w.heap.size 59 i0 (.slice none 0 0) 1 Try.underlying32 hi hz0 hz1 _ _ _ _ hs.length rfl rfl rfl rfl ?b2 ?b3 (Nat.le_refl _) ?_)
  case b2 => rw [hz2]; omega
  case b3 => unfold maxLen; omega
  intro w0 hown0 hgrow0
  have hb0 := grown_below hgrow0
  have e0 : Hid ((madeCells #[.slice none 0 0] (hs.length * 1)).toList = hcs (([] : List (Hdr Sp)) ++ List.replicate (hs.length - 0) hz)) := Lib.hid (by rw [hz_made]; rfl)
  have hz9 : w.heap.size < w0.heap.size := (hown0.lt _ rfl).2
  go_wp2
  go_loopw [4] (fun i wr => ∃ (k : Nat) (gs : List (Hdr Sp)), k ≤ hs.length ∧ i = .int .i64 k ∧ Hid (gs.length = k) ∧ Hid (lns gs = (lns hs).take k) ∧ wr.ownsRow w.heap.size 59 1 (.slice (some ⟨w.heap.size, 0, none⟩) hs.length hs.length) hs.length (hcs (gs ++ List.replicate (hs.length - k) hz)) ∧ RowsUp wr (w.heap.size + 1) gs ∧ Below w.heap.size w wr ∧ w.heap.size < wr.heap.size) (fun i _ => hs.length - (intOf i).toNat)
  case atStart => exact ⟨0, [], by omega, rfl, Lib.hid rfl, Lib.hid rfl, e0.out ▸ (by rw [Nat.mul_one]; exact hown0), RowsUp.nil _ _, hb0, hz9⟩
  case round =>
    obtain ⟨k, gs, hk, rfl, HL, HT, hown, hup, hb, hsz⟩ := hrel
    by_cases hlt : k < hs.length
    · obtain ⟨h, hh⟩ := some_of_lt hlt
      obtain ⟨b, off, rfl, c1⟩ := hdr_cell ((hm.below hb).mem) hh
      have HM := Lib.hid ((hm.below hb).row k h hh)
      have HHL := Lib.hid (lns_at hh)
      have hll := HR.out k h hh
      have hpl : (hcs (gs ++ List.replicate (hs.length - k) hz)).length = hs.length := by rw [hcs_len, List.length_append, List.length_replicate, HL.out]; omega
      obtain ⟨old, hold⟩ := some_of_lt (L := hcs (gs ++ List.replicate (hs.length - k) hz)) (k := k) (by omega)
      have HOLD := Lib.hid hold
      have HO := Lib.hid hown
      have HU := Lib.hid hup
      clear hh hown hup hpl hold
      go_wp2_with fail
      refine (toSpotS_any _ _ h.L _ HM.out hll).mono ?_
      rintro e w1 ⟨A', c', rfl, ho1, hq⟩
      have HU1 := Lib.hid (HU.out.snoc (x := ⟨A', c', h.L⟩) hq ho1 (by omega))
      have ho := own_below HO.out hq
      have hc0 := (ho.cellAt k (by omega)).trans HOLD.out
      have hf0 := ho.frozenAt k
      have st0 := (ho.stored k (.slice A' h.L.length c')).1
      rw [← hcs_set _ k ⟨A', c', h.L⟩, rep_set gs hz ⟨A', c', h.L⟩ hs.length k HL.out hlt] at st0
      have HST := Lib.hid st0
      have HQ := Lib.hid hq
      have hsz1 := hq.size
      clear ho1 ho st0 hq
      go_wp2
      go_roundw
      case rel =>
        refine ⟨k + 1, gs ++ [⟨A', c', h.L⟩], by omega, by go_num, Lib.hid (by rw [List.length_append, HL.out]; rfl), Lib.hid ?_, HST.out, HU1.out.same ?_, (hb.trans (HQ.out.mono hb.size)).setCell (Nat.le_refl _) _, by simp; omega⟩
        · rw [List.take_add_one, HHL.out, lns, List.map_append]
          have := HT.out
          rw [lns] at this
          rw [this]; rfl
        · intro b hb1 _
          exact heap_setCell_other _ _ _ _ (by intro e; have e' : b = w.heap.size := e; omega)
      case measure => simp [intOf]; omega
    · have e1 : k = hs.length := by omega
      subst e1
      rw [Nat.sub_self, List.replicate_zero, List.append_nil] at hown
      have HG := Lib.hid (hup.gown HL.out hown)
      have HT2 := Lib.hid (HT.out.trans (List.take_of_length_le (by rw [lns_len]; omega)))
      clear hup hown
      go_wp2
      go_ret
      exact ⟨_, _, gs, rfl, HT2.out, HG.out, hb⟩

set_option maxRecDepth 100000 in
set_option maxHeartbeats 3200000 in
theorem eqSpotSS_same (A B : Option Addr) (c d n : Nat) (hs gs : List (Hdr Sp)) (w : World) (ha : Grid w A hs) (hb : Grid w B gs) (h1 : hs.length = n) (he : lns gs = lns hs) (hl : n ≤ 1048576) (hr : ∀ (k : Nat) (h : Hdr Sp), hs[k]? = some h → h.L.length ≤ 1048576) : Calls Try.prog 12 #[.slice A n c, .slice B n d] w fun e w' => e = .returned (.bool true) ∧ Below w.heap.size w w' := by
  have HA := Lib.hid ha
  have HB := Lib.hid hb
  have HE := Lib.hid he
  have H1 := Lib.hid h1
  have H2 := Lib.hid (show gs.length = n by rw [← lns_len, he, lns_len, h1])
  have HR := Lib.hid hr
  have hL : ((n : Int) != n) = false := by simp
  clear ha hb he h1 hr
  go_enter Try.func12, Try.ntmps12
  go_wp2
  go_loopw [5] (fun i wr => ∃ k : Nat, k ≤ n ∧ i = .int .i64 k ∧ Below w.heap.size w wr) (fun i _ => n - (intOf i).toNat)
  case atStart => exact ⟨0, by omega, rfl, Below.refl _ _⟩
  case round =>
    obtain ⟨k, hk, rfl, hbw⟩ := hrel
    by_cases hlt : k < n
    · obtain ⟨x, hx⟩ := some_of_lt (L := hs) (k := k) (by rw [H1.out]; exact hlt)
      obtain ⟨y, hy⟩ := some_of_lt (L := gs) (k := k) (by rw [H2.out]; exact hlt)
      have hxy : y.L = x.L := by
        have e1 := lns_at hy
        rw [HE.out, lns_at hx] at e1
        exact (Option.some.inj e1).symm
      obtain ⟨a1, o1, rfl, c1⟩ := hdr_cell (HA.out.below hbw).mem hx
      obtain ⟨a2, o2, rfl, c2⟩ := hdr_cell (HB.out.below hbw).mem hy
      have q1 := (HA.out.below hbw).row k x hx
      have q2 := (HB.out.below hbw).row k y hy
      have hxl := HR.out k x hx
      rw [hxy] at c2 q2
      have k1 : ∀ dd os, (grow (redrawn wr dd) os).cell? ⟨a1, o1 + k, none⟩ = some (.slice x.A x.L.length x.c) := cell_regrown c1
      have k2 : ∀ dd os, (grow (redrawn wr dd) os).cell? ⟨a2, o2 + k, none⟩ = some (.slice y.A x.L.length y.c) := cell_regrown c2
      have C1 := Lib.hid (show ∀ dd os, Calls Try.prog 50 #[.slice x.A x.L.length x.c, .slice y.A x.L.length y.c] (grow (redrawn wr dd) os) (fun e w'' => e = .returned (.bool true) ∧ ∃ p : Regrown, w'' = grow (redrawn wr p.d) p.os) from fun dd os => Calls.regrown_of ((eqSpotS_any x.A y.A x.c y.c x.L x.L _ (q1.below (below_regrown wr dd os)) (q2.below (below_regrown wr dd os)) hxl hxl).mono (by rintro e w' ⟨he, hb⟩; rw [decide_eq_true rfl] at he; exact ⟨he, hb⟩)))
      clear q1 q2 hx hy hxy
      go_wp2
      refine wp_region_quiet_below (by kernel_rfl) (by kernel_rfl) ?_
      repeat (first | go_big_quiet_step (first | with_reducible exact C1.out _ _) | quiet_step (first | with_reducible exact C1.out _ _))
      refine wpQuiet_nil ?_
      intro _ hw'
      obtain ⟨⟨dq, osq⟩, hw''⟩ := hw'
      subst hw''
      have hb5 := below_regrown (wr) dq osq
      generalize hW2 : grow (redrawn wr dq) osq = W2 at *
      clear hW2
      go_wp2
      go_roundw
      case rel => exact ⟨k + 1, by omega, by go_num, Below.next hb5 hbw hbw.size⟩
      case measure => simp [intOf]; omega
    · go_wp2
      go_ret
      exact ⟨rfl, hbw⟩

/-- What the rows hold behind the marks. -/
def mkM (hs : List (Hdr Sp)) (k0 : Int) (j : Nat) : List Sp := runS (k0 + 2 * (totTo (lns hs) j : Int)) (rowOf hs j).length
set_option maxRecDepth 100000 in
set_option maxHeartbeats 3200000 in
theorem markSpotSS_any (lo hi : Nat) (A : Option Addr) (c n : Nat) (hs : List (Hdr Sp)) (k0 : Int) (w : World) (ha : GOwn w lo hi A c n hs (rowOf hs)) (hl : n ≤ 1048576) (ht : tot (lns hs) ≤ 1048576) (h0 : 0 ≤ k0) (h1 : k0 ≤ 100000000) (hlo : lo ≤ w.heap.size) : Calls Try.prog 14 #[.slice A n c, .int .i64 k0] w fun e w' =>
    e = .returned (.int .i64 (k0 + 2 * (tot (lns hs) : Int))) ∧ GOwn w' lo hi A c n hs (mkM hs k0) ∧ Below lo w w' ∧ (∀ b, hi ≤ b → b < w.heap.size → w'.heap[b]? = w.heap[b]?) ∧ (∀ b, b < w.heap.size → (∀ (k : Nat) (h : Hdr Sp), hs[k]? = some h → (hv h).ownBlock ≠ some b) → w'.heap[b]? = w.heap[b]?) := by
  have HA := Lib.hid ha
  have HLN := Lib.hid ha.len
  have HTN := Lib.hid (show tot (lns hs) = totTo (lns hs) n by rw [tot, lns_len, ha.len])
  clear ha
  go_enter Try.func14, Try.ntmps14
  go_wp2
  go_loopw [1, 5] (fun kk i wr => ∃ k : Nat, k ≤ n ∧ i = .int .i64 k ∧ kk = .int .i64 (k0 + 2 * (totTo (lns hs) k : Int)) ∧ Hid (GOwn wr lo hi A c n hs (fun j => if j < k then mkM hs k0 j else rowOf hs j)) ∧ Below lo w wr ∧ Hid (∀ b, hi ≤ b → b < w.heap.size → wr.heap[b]? = w.heap[b]?) ∧ Hid (∀ b, b < w.heap.size → (∀ (k : Nat) (h : Hdr Sp), hs[k]? = some h → (hv h).ownBlock ≠ some b) → wr.heap[b]? = w.heap[b]?)) (fun _ i _ => n - (intOf i).toNat)
  case atStart => exact ⟨0, by omega, rfl, by simp [totTo], Lib.hid (by simpa using HA.out), Below.refl _ _, Lib.hid (fun _ _ _ => rfl), Lib.hid (fun _ _ _ => rfl)⟩
  case round =>
    obtain ⟨k, hk, rfl, rfl, HG, hbw, HH, HU⟩ := hrel
    by_cases hlt : k < n
    · obtain ⟨x, hx⟩ := some_of_lt (L := hs) (k := k) (by rw [HLN.out]; exact hlt)
      obtain ⟨a1, o1, rfl, c1⟩ := hdr_cell (Mem.of_own HG.out.own) hx
      have q0 := HG.out.row k x hx
      have hts := totTo_succ (lns_at hx)
      have htr := tot_row (lns_at hx)
      have HX := Lib.hid hx
      simp only [Nat.lt_irrefl, if_false] at q0
      rw [rowOf_at hx] at q0
      have Q0 := Lib.hid q0
      have HTS := Lib.hid hts
      have HTR := Lib.hid htr
      clear hx q0 hts htr
      go_wp2_with fail
      refine (markSpotS_any lo x.A x.c x.L (k0 + 2 * (totTo (lns hs) k : Int)) _ Q0.out.1 (by have := HTR.out; omega) (by omega) (by have := HTR.out; omega)).mono ?_
      rintro e w2 ⟨rfl, hq2, hg2⟩
      have HQ2 := Lib.hid hq2
      have HG2 := Lib.hid hg2
      clear hq2 hg2
      go_wp2_with fail
      go_roundw
      case rel =>
        refine ⟨k + 1, by omega, by go_num, by rw [HTS.out]; go_num, Lib.hid ⟨HLN.out, own_kept HG.out.own HG2.out (fun r hr j hj e => (Q0.out.2 j (by rw [e]; exact hr)).2 hj), HG.out.top, fun j y hy => ⟨?_, (HG.out.row j y hy).2⟩, HG.out.apart, Nat.le_trans HG.out.sz HG2.out.size⟩, below_grown hbw HG2.out (Nat.le_trans hlo hbw.size) (fun r hr => (Q0.out.1.lt r hr).1), Lib.hid (fun b h2 h3 => (HG2.out.block b (Nat.lt_of_lt_of_le h3 hbw.size) (fun e => by have := (Q0.out.2 b e.symm).1; omega)).trans (HH.out b h2 h3)), Lib.hid (fun b h2 h3 => (HG2.out.block b (Nat.lt_of_lt_of_le h2 hbw.size) (fun e => h3 k x HX.out e.symm)).trans (HU.out b h2 h3))⟩
        by_cases hj : j = k
        · subst hj
          have e1 : y = x := by rw [HX.out] at hy; exact (Option.some.inj hy).symm
          subst e1
          simp only [Nat.lt_succ_self, if_true]
          rw [mkM, rowOf_at hy]
          exact HQ2.out
        · have e2 : (if j < k + 1 then mkM hs k0 j else rowOf hs j) = (if j < k then mkM hs k0 j else rowOf hs j) := by
            by_cases hjk : j < k
            · rw [if_pos hjk, if_pos (by omega)]
            · rw [if_neg hjk, if_neg (by omega)]
          simp only [e2]
          exact own_kept (HG.out.row j y hy).1 HG2.out (fun r hr i hi2 e => HG.out.apart k j x y (fun e => hj e.symm) HX.out hy r hr (by rw [← e]; exact hi2))
      case measure => simp [intOf]; omega
    · go_wp2
      go_ret
      have e3 : k = n := by omega
      subst e3
      refine ⟨ret_intG (by rw [HTN.out]), ⟨HG.out.len, HG.out.own, HG.out.top, fun j y hy => ⟨?_, (HG.out.row j y hy).2⟩, HG.out.apart, HG.out.sz⟩, hbw, HH.out, HU.out⟩
      have h5 := (HG.out.row j y hy).1
      simp only [show j < k by have := (List.getElem?_eq_some_iff.1 hy).1; have := HLN.out; omega, if_true] at h5
      exact h5
set_option maxRecDepth 100000 in
set_option maxHeartbeats 3200000 in
theorem heldSpotSS_any (lo hi : Nat) (A : Option Addr) (c n : Nat) (hs : List (Hdr Sp)) (k0 : Int) (w : World) (ha : GOwn w lo hi A c n hs (mkM hs k0)) (hl : n ≤ 1048576) (ht : tot (lns hs) ≤ 1048576) (h0 : 0 ≤ k0) (h1 : k0 ≤ 100000000) : Calls Try.prog 24 #[.slice A n c, .int .i64 k0] w fun e w' => e = .returned (.int .i64 (k0 + 2 * (tot (lns hs) : Int))) ∧ w = w' := by
  have HA := Lib.hid ha
  have HLN := Lib.hid ha.len
  have HTN := Lib.hid (show tot (lns hs) = totTo (lns hs) n by rw [tot, lns_len, ha.len])
  clear ha
  go_enter Try.func24, Try.ntmps24
  go_wp2
  go_loop [1, 5] (fun kk i => ∃ k : Nat, k ≤ n ∧ i = .int .i64 k ∧ kk = .int .i64 (k0 + 2 * (totTo (lns hs) k : Int))) (fun _ i => n - (intOf i).toNat)
  case atStart => exact ⟨0, by omega, rfl, by simp [totTo]⟩
  case round =>
    obtain ⟨k, hk, rfl, rfl⟩ := hrel
    by_cases hlt : k < n
    · obtain ⟨x, hx⟩ := some_of_lt (L := hs) (k := k) (by rw [HLN.out]; exact hlt)
      obtain ⟨a1, o1, rfl, c1⟩ := hdr_cell (Mem.of_own HA.out.own) hx
      have q0 := Mem.of_own (HA.out.row k x hx).1
      rw [mkM, rowOf_at hx] at q0
      have Q0 := Lib.hid q0
      have HTS := Lib.hid (totTo_succ (lns_at hx))
      have HTR := Lib.hid (tot_row (lns_at hx))
      clear hx q0
      go_wp2_with fail
      refine (heldSpotS_any x.A x.L.length x.c (k0 + 2 * (totTo (lns hs) k : Int)) _ Q0.out (by have := HTR.out; omega) (by omega) (by have := HTR.out; omega)).mono ?_
      rintro e w2 ⟨rfl, rfl⟩
      go_wp2_with fail
      go_round
      case rel => exact ⟨k + 1, by omega, by go_num, by rw [HTS.out]; go_num⟩
      case measure => simp [intOf]; omega
    · go_wp2
      go_ret
      have e3 : k = n := by omega
      subst e3
      exact ⟨ret_intG (by rw [HTN.out]), rfl⟩
end Go.Proofs.Ytbgbcajcajaocaa
