/-
  Draws: what ChartsOf is asked.
-/
import Derived.Test.YtbgbcajcajaocaaSi
import Derived.Deep.RegionHeld3
import Derived.Deep.DeepCutAuto
namespace Go.Proofs.Ytbgbcajcajaocaa
open Go.RowKit Go.Sort

/-- Sheets are drawn. -/
def DrO (w : World) (e : Ending) (w' : World) : Prop :=
  ∃ (A : Option Addr) (c : Nat) (Ls : List Shd), e = .returned (.slice A Ls.length c) ∧ SGrid w' A Ls ∧ Ls.length ≤ 13 ∧ (∀ (k : Nat) (a : Shd), Ls[k]? = some a → a.h.L.length ≤ 9) ∧ Below w.heap.size w w'
theorem DrO.fin {w w' : World} {A : Option Addr} {c m : Nat} {Ls : List Shd} (hg : SGrid w' A Ls) (hl : Ls.length = m) (hm : m ≤ 12) (hb : ∀ (k : Nat) (a : Shd), Ls[k]? = some a → a.h.L.length ≤ 9) (hB : Below w.heap.size w w') : DrO w (.returned (.slice A m c)) w' := by
  subst hl
  exact ⟨A, c, Ls, rfl, hg, by omega, hb, hB⟩
theorem sln_set {Ls : List Shd} {x : Shd} {k : Nat} (h : ∀ (q : Nat) (a : Shd), Ls[q]? = some a → 0 ≤ a.p ∧ a.p ≤ 12 ∧ a.h.L.length ≤ 9) (hx : x.h.L.length ≤ 9) : ∀ (q : Nat) (a : Shd), (Ls.set k x)[q]? = some a → a.h.L.length ≤ 9 := fun q y hy => by
  rcases List.mem_or_eq_of_mem_set (List.mem_of_getElem? hy) with h1 | h1
  · obtain ⟨j, hj⟩ := List.getElem?_of_mem h1
    exact (h j y hj).2.2
  · subst h1; exact hx
set_option maxHeartbeats 6400000 in
set_option maxRecDepth 100000 in
theorem drawChartsOf_any (A : Option Addr) (c : Nat) (C : List Int) (w : World) (h : code w A C) : Calls Try.prog 35 #[.slice A C.length c] w (DrO w) := by
  obtain ⟨i0, hi, hz0, hz1, hz2⟩ := info_parts info_sheet
  have HC := Lib.hid (code.cur (c := c) h)
  have HB := Lib.hid ((Below.refl w.heap.size w).alloc (Nat.le_refl _) (.cells #[.slice A C.length c, .int .i64 0, .int .u64 0] 88))
  clear h
  obtain ⟨W0, hW0⟩ : ∃ x, w.alloc (.cells #[.slice A C.length c, .int .i64 0, .int .u64 0] 88) = x := ⟨_, rfl⟩
  have hlt : w.heap.size < W0.heap.size := by rw [← hW0]; simp
  go_enter Try.func35, Try.ntmps35
  go_wp2_with fail
  (try rw [hW0] at HC)
  (try rw [hW0] at HB)
  (try rw [hW0])
  refine (chartsAll_any w.heap.size 0 _ HC.out (by omega)).mono ?_
  rintro e w1 ⟨n, vo, hs, vi, D, rfl, hci, hn, hln, hd, hc1, ho1⟩
  obtain ⟨A1, c1, rfl⟩ := own_form hci.own
  obtain ⟨B1, d1, rfl⟩ := own_form hci.ints_
  have hlen := hci.len
  subst hlen
  have X1 := Lib.hid hci
  have B1' := Lib.hid (HB.out.trans (ho1.below (B := w.heap.size) (Nat.le_refl _) (by omega)))
  have LN := Lib.hid hln
  have C1 := Lib.hid hc1
  have HR := Lib.hid (show ∀ (k : Nat) (h : Hdr Sp), hs[k]? = some h → h.L.length ≤ 1048576 ∧ h.L.length ≤ h.c from fun k h hk => ⟨by have := hln k h hk; omega, hci.cap hk⟩)
  clear hci hln ho1 hW0 hc1 HB HC
  go_wp2_with fail
  refine (shCharts_any A1 c1 hs B1 d1 D _ X1.out.grid (Mem.of_own X1.out.ints_) (by omega) (by omega) HR.out).mono ?_
  rintro e w2 ⟨rfl, hb2⟩
  have X2 := Lib.hid (X1.out.below hb2)
  have C2 := Lib.hid (C1.out.below hb2 (C1.out.lt))
  have hsz12 := hb2.size
  have B2 := Lib.hid (B1'.out.trans (hb2.mono B1'.out.size))
  have hg2 := C2.out.lt
  clear X1 hb2 B1' C1
  cases hok : acOk (lns hs) D
  · go_wp2_with fail
    refine (sheet_any w.heap.size 80000 _ C2.out (by omega)).mono ?_
    rintro e w3 ⟨p, s, A3, c3, L, rfl, hown, hl, hsm, hc3, ho3⟩
    have G3 := Lib.hid (show SGrid (w3.alloc (.cells #[.int .i64 p, .int .i64 s.x, .int .i64 s.y, .slice A3 L.length c3] 29)) (some ⟨w3.heap.size, 0, none⟩) [⟨p, s, ⟨A3, c3, L⟩⟩] from by
      refine ⟨fun _ => ⟨_, _, rfl, fun j u hu => ?_⟩, fun k a ha => ?_⟩
      · rw [Nat.zero_add, (Blk.new w3 #[.int .i64 p, .int .i64 s.x, .int .i64 s.y, .slice A3 L.length c3] 29).cell j]
        simpa [shs] using hu
      · match k, ha with
        | 0, ha =>
          obtain rfl := Option.some.inj ha
          exact Mem.of_own (own_below hown (below_alloc _ _))
        | k + 1, ha => simp at ha)
    have B3 := Lib.hid ((B2.out.trans (ho3.below (B := w.heap.size) (Nat.le_refl _) (by omega))).trans ((below_alloc w3 (.cells #[.int .i64 p, .int .i64 s.x, .int .i64 s.y, .slice A3 L.length c3] 29)).mono (by have := hc3.lt; omega)))
    clear hown hsm hc3 ho3
    go_wp2_with fail
    go_ret
    exact ⟨_, 1, [⟨p, s, ⟨A3, c3, L⟩⟩], rfl, G3.out, by simp, (fun k a ha => by
      match k, ha with
      | 0, ha => obtain rfl := Option.some.inj ha; exact hl
      | k + 1, ha => simp at ha), B3.out⟩
  · have hac := acOk_iff.1 hok
    obtain ⟨x, hx⟩ := some_of_lt (L := hs) (k := 0) (by have := hac.2.1; rw [lns_len] at this; omega)
    obtain ⟨b, off, rfl, g1⟩ := hdr_cell X2.out.grid.mem hx
    rw [Nat.add_zero] at g1
    have hrow := ac_row hok (lns_at hx)
    have hx1 : 1 ≤ x.L.length := by have := hrow.2; omega
    have hx2 : x.L.length ≤ 12 := by have := hrow.2; omega
    have hx3 : x.L.length = row0 (lns hs) := hrow.2.1
    have HX3 := Lib.hid hx3
    have HOK := Lib.hid hok
    have hh0 : (0 : Int) < (hs.length : Int) := by have := hac.2.1; rw [lns_len] at this; omega
    have hD8 : D.length ≤ 9 := by have := hac.2.2.1; have := hac.2.1; omega
    clear hx hrow hx3 hac hok
    go_wp2_with fail
    go_loopw [6, 28] (fun lv iv wr => ∃ (k : Nat) (Ls : List Shd), k ≤ x.L.length ∧ iv = .int .i64 k ∧ SI wr w2.heap.size lv k Ls ∧ Hid (∀ (q : Nat) (a : Shd), Ls[q]? = some a → 0 ≤ a.p ∧ a.p ≤ 12 ∧ a.h.L.length ≤ 9) ∧ Below w2.heap.size w2 wr) (fun _ iv _ => x.L.length - (intOf iv).toNat)
    case atStart => exact ⟨0, [], by omega, rfl, SI.nil _ _, Lib.hid (fun q a e => by simp at e), Below.refl _ _⟩
    case round =>
      obtain ⟨k, Ls, hk, rfl, hsi, HA, hb⟩ := hrel
      obtain ⟨Al, cl, rfl⟩ := own_form hsi.own
      have S := Lib.hid hsi
      have BR := Lib.hid hb
      have hzr := hb.size
      clear hsi hb g1
      by_cases hlt' : k < x.L.length
      · obtain ⟨R, sS, hRl, HCT⟩ : ∃ (R : List Rw) (sS : Sp), R.length ≤ 9 ∧ Hid (Calls Try.prog 43 #[.slice (some ⟨b, off, none⟩) hs.length c1, .slice B1 D.length d1, .int .i64 (k : Int)] wr (RetSheet wr k sS R)) :=
          ⟨_, _, by rw [soTo_len]; exact hD8, Lib.hid (shOf_any (some ⟨b, off, none⟩) c1 hs B1 d1 D k _ (X2.out.below BR.out).grid (Mem.of_own (X2.out.below BR.out).ints_) HOK.out (by have := HX3.out; omega))⟩
        go_wp2_with fail
        refine HCT.out.mono ?_
        rintro e w3 ⟨A3, c3, rfl, hown3, hb3⟩
        have S3 := Lib.hid (S.out.below hb3)
        have HW3 := Lib.hid (own_base hown3 hzr)
        have HXO := Lib.hid (show ∀ q, (hvr ⟨A3, c3, R⟩).ownBlock = some q → (Value.slice Al k cl).ownBlock ≠ some q ∧ ∀ (j : Nat) (a : Shd), Ls[j]? = some a → (hvr a.h).ownBlock ≠ some q from fun q hq => by
          have h1 := (hown3.lt q hq).1
          exact ⟨fun e => (by have := (S.out.own.lt _ e).2; omega), fun j a ha e => (by have := ((S.out.row j a ha).1.lt _ e).2; omega)⟩)
        have BR3 := Lib.hid (BR.out.trans (hb3.mono hzr))
        have hz3 := BR3.out.size
        clear hown3 hb3 S BR
        go_wp2_with (at_builtin; (refine wpList_append_keep _ rfl (.tmp 31) (.tmp 36) 46 rfl w2.heap.size 29 i0 (.agg #[.int .i64 0, .int .i64 0, .int .i64 0, .slice none 0 0]) 4 48 Try.underlying46 hi hz0 hz1 hz2 rfl (by omega) _ _ _ rfl S3.out.own _ _ _ (congrArg (fun g => Value.slice (some ⟨g, 0, none⟩) 1 1) (by simp)) rfl rfl (by omega) (by omega) (by omega) ?_; intro v' w4 hown' hb4 hkeep hsz4; have HC4 := Lib.hid (S3.out.snoc (x := ⟨k, sS, ⟨A3, c3, R⟩⟩) HW3.out HXO.out hown' hkeep); have BR4 := Lib.hid (BR3.out.trans hb4); clear hkeep hown' hb4))
        go_roundw
        case rel =>
          refine ⟨k + 1, Ls ++ [⟨k, sS, ⟨A3, c3, R⟩⟩], by omega, by go_num, HC4.out, Lib.hid (fun q a e => ?_), BR4.out⟩
          rcases get_snoc e with e | ⟨_, rfl⟩
          · exact HA.out q a e
          · exact ⟨by show (0 : Int) ≤ k; omega, by show (k : Int) ≤ 12; omega, by show R.length ≤ 9; omega⟩
        case measure => simp [intOf]; omega
      · have hkl : k = x.L.length := by omega
        subst hkl
        have CR := Lib.hid (C2.out.below BR.out hg2)
        have B2' := Lib.hid (B2.out.trans (BR.out.mono (by omega)))
        obtain ⟨m, hm⟩ : ∃ m, x.L.length = m := ⟨_, rfl⟩
        rw [hm] at S hx1 hx2 ⊢
        clear HX3 HOK X2 LN HR hD8 hk hlt' C2 B2 BR
        obtain ⟨go, rfl, hgo1, hgo2⟩ := own_addr S.out.own hx1
        go_wp2_with fail
        refine (pick_any w.heap.size 80000 _ _ ((m : Int) - 1) CR.out (by omega) (by omega) (by omega) (by omega)).mono ?_
        rintro e w3 ⟨i, rfl, i0_, i1_, hc3, ho3⟩
        have S3 := Lib.hid (S.out.oth ho3 hg2)
        have B3 := Lib.hid (B2'.out.trans (ho3.below (B := w.heap.size) (Nat.le_refl _) (by omega)))
        have hz3 := ho3.size
        clear ho3 S B2' CR
        obtain ⟨i, rfl⟩ := Int.eq_ofNat_of_zero_le i0_
        have hi' : i < m := by omega
        go_wp2_with fail
        refine (pick_any w.heap.size 80002 _ _ 9 hc3 (by omega) (by omega) (by omega) (by omega)).mono ?_
        rintro e w4 ⟨r, rfl, r0_, r1_, hc4, ho4⟩
        have S4 := Lib.hid (S3.out.oth ho4 hg2)
        have B4 := Lib.hid (B3.out.trans (ho4.below (B := w.heap.size) (Nat.le_refl _) (by omega)))
        have hz4 := ho4.size
        clear ho4 S3 B3 hc3
        obtain ⟨a, ha⟩ := some_of_lt (L := Ls) (k := i) (by rw [S4.out.len]; exact hi')
        obtain ⟨t0, hta⟩ := some_of_lt (L := Ls) (k := 0) (by rw [S4.out.len]; omega)
        have HAI := Lib.hid ha
        have HTI := Lib.hid hta
        obtain ⟨hap0, hap1, hal⟩ := HA.out i a ha
        have z0 := (S4.out.own.cellAt (i * 4) (by omega)).trans (shs_cell ha 0 (by omega))
        have z3 := (S4.out.own.cellAt (i * 4 + 3) (by omega)).trans (shs_cell ha 3 (by omega))
        have y1 := (S4.out.own.cellAt 1 (by omega)).trans (shs_cell hta 1 (by omega))
        have y2 := (S4.out.own.cellAt 2 (by omega)).trans (shs_cell hta 2 (by omega))
        have f0 := S4.out.own.frozenAt (i * 4)
        have f1 := S4.out.own.frozenAt (i * 4 + 1)
        have f2 := S4.out.own.frozenAt (i * 4 + 2)
        have f3 := S4.out.own.frozenAt (i * 4 + 3)
        have x1 := (S4.out.own.cellAt (i * 4 + 1) (by omega)).trans (shs_cell ha 1 (by omega))
        have x2 := (S4.out.own.cellAt (i * 4 + 2) (by omega)).trans (shs_cell ha 2 (by omega))
        simp at z0 z3 y1 y2 x1 x2
        have hw2 : w.heap.size ≤ go := by omega
        clear ha hta
        by_cases h0 : r = 0
        · subst h0
          clear hc4
          go_wp2_with fail
          go_ret
          exact DrO.fin (S4.out.putP HAI.out (a.p + 1)).grid (by rw [List.length_set]; exact S4.out.len) hx2 (sln_set HA.out hal) (B4.out.setCell hw2 _)
        have e0 : ((r : Int) == 0) = false := beq_eq_false_iff_ne.2 h0
        clear h0
        by_cases h1 : r = 1
        · subst h1
          clear hc4
          by_cases hn0 : 0 < a.h.L.length
          case neg =>
            go_wp2_with fail
            go_ret
            exact DrO.fin S4.out.grid S4.out.len hx2 (fun k b hb => (HA.out k b hb).2.2) B4.out
          obtain ⟨gr, hA, hgr1, hgr2⟩ := own_addr (S4.out.row i a HAI.out).1 hn0
          have hcap := own_capG (S4.out.row i a HAI.out).1
          have HAA := Lib.hid hA
          rw [hA] at z3
          clear hA
          by_cases hcc : a.h.c = 1
          · go_wp2_with fail
            go_ret
            exact DrO.fin (S4.out.tail1 HAI.out (by omega)) (by rw [List.length_set]; exact S4.out.len) hx2 (sln_set HA.out (by show 0 ≤ 9; omega)) (B4.out.setCell hw2 _)
          · go_wp2_with fail
            go_ret
            exact DrO.fin (S4.out.tail HAI.out HAA.out _) (by rw [List.length_set]; exact S4.out.len) hx2 (sln_set HA.out (by show a.h.L.tail.length ≤ 9; rw [List.length_tail]; omega)) (B4.out.setCell hw2 _)
        have e1 : ((r : Int) == 1) = false := beq_eq_false_iff_ne.2 h1
        clear h1
        by_cases h2 : r = 2
        · subst h2
          by_cases hn0 : 0 < a.h.L.length
          case neg =>
            clear hc4
            go_wp2_with fail
            go_ret
            exact DrO.fin S4.out.grid S4.out.len hx2 (fun k b hb => (HA.out k b hb).2.2) B4.out
          obtain ⟨gr, hA, hgr1, hgr2⟩ := own_addr (S4.out.row i a HAI.out).1 hn0
          have HAA := Lib.hid hA
          rw [hA] at z3
          have hne : gr ≠ go := fun e => (S4.out.row i a HAI.out).2 gr (by rw [hvr, hA]; rfl) (by rw [e]; rfl)
          obtain ⟨r0, hr0⟩ := some_of_lt hn0
          have HR0 := Lib.hid hr0
          have HS0 := Lib.hid z3
          have hzb : go ≠ w.heap.size := by omega
          have hal0 : (0 : Int) < (a.h.L.length : Int) := by omega
          have CJ1 := Lib.hid (fun (w' : World) (h : Cur w' w.heap.size 80004) => pick_any w.heap.size 80004 9 w' 8 h (by omega) (by omega) (by omega) (by omega))
          have HSN1 := Lib.hid (fun (wy : World) (ho : Oth w.heap.size w4.drew wy) => (show SI w4.drew w2.heap.size (.slice (some ⟨go, 0, none⟩) m cl) m Ls from S4.out.same (fun _ _ _ => rfl)).oth ho hg2)
          have HC4 := Lib.hid hc4
          have HOW := Lib.hid (fun (wy : World) (h : SI wy w2.heap.size (.slice (some ⟨go, 0, none⟩) m cl) m Ls) => (show wy.ownsRow w2.heap.size 83 3 (.slice (some ⟨gr, 0, none⟩) a.h.L.length a.h.c) a.h.L.length (rows a.h.L) from hA ▸ (h.row i a HAI.out).1))
          clear hA hr0 hc4 z0 y1 y2 f0 f1 f2 f3 x1 x2
          go_wp2_with fail
          clear z3
          go_region_held3 (fun wx => wx.cell? ⟨go, i * 4 + 3, none⟩ = some (.slice (some ⟨gr, 0, none⟩) a.h.L.length a.h.c))
            (first | with_reducible exact HS0.out | with_reducible exact keepE1 HS0.out | with_reducible exact hS5 | with_reducible exact keepP1 hS5 hne | with_reducible assumption)
            (first
              | (go_at_call 65; (first | (refine (CJ1.out _ ?_).mono ?_) | fail); (focus (repeat (first | with_reducible exact HC4.out | with_reducible refine cur_drew ?_ | with_reducible refine Cur.alloc ?_ _))); rintro e w5 ⟨q, rfl, q0, q1, hc5, ho5⟩; have hS5 : w5.cell? ⟨go, i * 4 + 3, none⟩ = some (.slice (some ⟨gr, 0, none⟩) a.h.L.length a.h.c) := keepB1 ho5 (by repeat (first | with_reducible exact HS0.out | with_reducible refine keepE1 ?_ | with_reducible refine keepD1 ?_)) hzb; have S7 := Lib.hid (HSN1.out _ ho5); obtain ⟨bq, oq, eq_, x0_, x1_, x2_⟩ := (Mem.of_own (HOW.out _ S7.out)).row HR0.out; (cases eq_); have fz := (HOW.out _ S7.out).frozenAt 0; (rw [Nat.zero_mul, Nat.zero_add] at x0_); have hgl := ((HOW.out _ S7.out).lt gr rfl).2))
          all_goals
            have B5 := Lib.hid (B4.out.trans (Below.trans (show Below w.heap.size w4 w4.drew from (Oth.refl w.heap.size w4).drew.below (Nat.le_refl _) (by omega)) (ho5.below (B := w.heap.size) (Nat.le_refl _) (show w.heap.size ≤ w4.heap.size by omega))))
            clear hS5 x0_ x1_ x2_ fz ho5 hc5
            go_wp2_with fail
            go_ret
            exact DrO.fin (S7.out.putC HAI.out HAA.out HR0.out _) (by rw [List.length_set]; exact S7.out.len) hx2 (sln_set HA.out (by show (a.h.L.set 0 _).length ≤ 9; rw [List.length_set]; exact hal)) (B5.out.setCell (by show w.heap.size ≤ gr; omega) _)
        have e2 : ((r : Int) == 2) = false := beq_eq_false_iff_ne.2 h2
        clear h2 hc4
        by_cases h3 : r = 3
        · subst h3
          have hm0 : (0 : Int) < (m : Int) := by omega
          go_wp2_with fail
          go_ret
          exact DrO.fin (S4.out.putS HAI.out t0.s.x t0.s.y).grid (by rw [List.length_set]; exact S4.out.len) hx2 (sln_set HA.out hal) ((B4.out.setCell hw2 _).setCell hw2 _)
        have e3 : ((r : Int) == 3) = false := beq_eq_false_iff_ne.2 h3
        clear h3
        by_cases h4 : r = 4
        · subst h4
          go_wp2_with fail
          go_ret
          exact DrO.fin (Ls := []) ⟨fun h => absurd rfl h, fun k a e => by simp at e⟩ rfl (by omega) (fun k a e => by simp at e) B4.out
        have e4 : ((r : Int) == 4) = false := beq_eq_false_iff_ne.2 h4
        go_wp2_with fail
        go_ret
        exact DrO.fin S4.out.grid S4.out.len hx2 (fun k b hb => (HA.out k b hb).2.2) B4.out
end Go.Proofs.Ytbgbcajcajaocaa
