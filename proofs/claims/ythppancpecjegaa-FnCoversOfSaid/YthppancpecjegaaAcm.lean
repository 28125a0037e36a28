/-
  The reference's first least cover: the walk.
-/
import Derived.Test.YthppancpecjegaaAcl
import Derived.Test.YthppancpecjegaaAbl
import Derived.Lib.QuietBelow
namespace Go.Proofs.Ythppancpecjegaa
open Go.RowKit
open Go.Sort (grow)

theorem info_intss : (Try.prog.info? 23).map (fun i => (i.zero, i.size, i.bytes)) = some (some (.slice none 0 0), 1, 24) := by kernel_rfl
/-- Rows of costs that the call has made: the headers hs in a row of its own (value v), each row in a block that is not v's. -/
def CstO (w : World) (base : Nat) (v : Value) (r n : Nat) (hs : List (Option Addr × Nat)) (c : Nat → Nat → Int) : Prop :=
  hs.length = r ∧ w.ownsRow base 23 1 v r (hs.flatMap fun h => [Value.slice h.1 n h.2]) ∧ ∀ (j : Nat) (h : Option Addr × Nat), hs[j]? = some h → Far w v h.1 (ints ((List.range n).map (c j)))
theorem CstO.below {w w' : World} {base : Nat} {v : Value} {r n : Nat} {hs : List (Option Addr × Nat)} {c : Nat → Nat → Int} (h : CstO w base v r n hs c) (hb : Below w.heap.size w w') : CstO w' base v r n hs c :=
  ⟨h.1, own_below h.2.1 hb, fun j x hx => (h.2.2 j x hx).below hb⟩
theorem CstO.cst {w : World} {base : Nat} {A : Option Addr} {c' : Nat} {n : Nat} {hs : List (Option Addr × Nat)} {c : Nat → Nat → Int} (h : CstO w base (.slice A n c') n n hs c) : Cst w A n hs c :=
  ⟨h.1, Mem.of_own h.2.1, fun j x hx => (h.2.2 j x hx).mem⟩
theorem cst_at {L : List Sp} {op sp : List Int} {i k y z : Nat} {s u : Sp} (ho : op[i]? = some (y : Int)) (hs : sp[k]? = some (z : Int)) (h1 : L[z]? = some s) (h2 : L[y]? = some u) : cst L op sp i k = sq s u := by
  simp [cst, List.getD, ho, hs, h1, h2]
theorem range_snoc {α : Type} (f : Nat → α) (k : Nat) : (List.range (k + 1)).map f = (List.range k).map f ++ [f k] := by simp [List.range_succ]
/-- There is a cover; the first least one; its sum. -/
def lcA (L : List Sp) (a n : List Int) : Bool := decide ((opens a n).length ≤ (spares L.length a n).length)
def lcL (L : List Sp) (a n : List Int) : List Int := if lcA L a n then lcV L (opens a n) (spares L.length a n) else []
def lcN (L : List Sp) (a n : List Int) : Int := if lcA L a n then lcSum L (opens a n) (spares L.length a n) else 0
theorem mlS_take {c : Nat → Nat → Int} {n : Nat} (hn : n ≤ 12) (hc : ∀ i k, i < n → k < n → 0 ≤ c i k ∧ c i k ≤ 2100000) {m : Nat} : ∀ i, m ≤ i → i ≤ n → (mlS c n i).2.take m = (mlS c n m).2
  | 0, h, _ => by
    obtain rfl : m = 0 := by omega
    rw [List.take_of_length_le (by rw [(mlS_spec hn hc 0 (by omega)).2.2]; omega)]
  | i + 1, h, hi => by
    by_cases e : m = i + 1
    · subst e
      rw [List.take_of_length_le (by rw [(mlS_spec hn hc (i + 1) hi).2.2]; omega)]
    · have ih := mlS_take hn hc (m := m) i (by omega) (by omega)
      have hl := (mlS_spec hn hc i (by omega)).2.2
      rw [mlS]
      show ((mlS c n i).2 ++ _).take m = _
      rw [List.take_append_of_le_length (by omega), ih]
theorem mlS_mem {c : Nat → Nat → Int} {n : Nat} (hn : n ≤ 12) (hc : ∀ i k, i < n → k < n → 0 ≤ c i k ∧ c i k ≤ 2100000) : ∀ i, i ≤ n → ∀ x ∈ (mlS c n i).2, ∃ k : Nat, x = (k : Int) ∧ k < n
  | 0, _, x, hx => by cases hx
  | i + 1, hi, x, hx => by
    rw [mlS] at hx
    rcases List.mem_append.1 hx with h | h
    · exact mlS_mem hn hc i (by omega) x h
    · have hs := mlS_spec hn hc i (by omega)
      obtain ⟨q, q1, q2, q3⟩ := mlB_some hn (show i < n by omega) hc hs.2.1
      rcases mlB_spec (c := c) (n := n) (i := i) (S := (mlS c n i).1) n with ⟨_, f2⟩ | ⟨k, f1, f2, _⟩
      · exact absurd ⟨q2, q3⟩ (f2 q q1)
      · simp only [List.mem_singleton] at h
        exact ⟨k, h.trans f2, f1⟩
/-- What is put together out of what was picked. -/
theorem lc_pick {L : List Sp} {op sp : List Int} {n m : Nat} (hn : sp.length = n) (hm : op.length = m) (hmn : m ≤ n) (h12 : n ≤ 12) (hc : ∀ i k, i < m → k < n → 0 ≤ cst L op sp i k ∧ cst L op sp i k ≤ 2100000) :
    ((mlS (pad (cst L op sp) m) n n).2.take m).map (fun k => sp.getD k.toNat 0) = lcV L op sp ∧ TT (pad (cst L op sp) m) n (2 ^ n - 1) = lcSum L op sp := by
  have hp := pad_bd hmn hc
  constructor
  · rw [mlS_take h12 hp n hmn (Nat.le_refl _), (lcS_eq hmn h12 hc m (Nat.le_refl _)).2.1, lcV, hn, hm]
  · have := TT_bst hmn h12 hc (i := 0) (t := 0) (by omega) (pop_nil n)
    rw [show comp n 0 = 2 ^ n - 1 by simp [comp]] at this
    rw [this, lcSum, hn, hm]
    rfl
set_option maxRecDepth 100000 in
set_option maxHeartbeats 6400000 in
theorem abLeast_any (A : Option Addr) (c : Nat) (L : List Sp) (B : Option Addr) (d : Nat) (a : List Int) (C : Option Addr) (f : Nat) (n : List Int) (w : World) (hm : Mem w A (spots L)) (ha : Mem w B (ints a)) (hn : Mem w C (ints n)) (hl : L.length ≤ 1048576) (hl2 : a.length ≤ 1048576) (hl3 : n.length ≤ 1048576) (hok : abOk L a n = true) : Calls Try.prog 44 #[.slice A L.length c, .slice B a.length d, .slice C n.length f] w (RetInts3 w (lcL L a n) (lcN L a n) (lcA L a n)) := by
  obtain ⟨i0, hi, hz0, hz1, hz2⟩ := info_parts info_int
  obtain ⟨i1, gi, gz0, gz1, gz2⟩ := info_parts info_intss
  have hlen := ab_lens hok
  have HG := Lib.hid (ch_all (abOk_iff.1 hok).1)
  have HOP := Lib.hid (fun k x hx => op_nat (L := L) (a := a) (n := n) (k := k) (x := x) hok hx)
  have HSP := Lib.hid (show ∀ k x, (spares L.length a n)[k]? = some x → ∃ y : Nat, x = (y : Int) ∧ y < L.length from fun k x hx => by have := spares_mem (List.mem_of_getElem? hx); exact nat_of this.1 this.2)
  have hol := opens_len a n
  have hsl := spares_len L.length a n
  have HLL := Lib.hid (show lcL L a n = if lcA L a n then lcV L (opens a n) (spares L.length a n) else [] from rfl)
  have HLN := Lib.hid (show lcN L a n = if lcA L a n then lcSum L (opens a n) (spares L.length a n) else 0 from rfl)
  have HLA := Lib.hid (show lcA L a n = decide ((opens a n).length ≤ (spares L.length a n).length) from rfl)
  have hcst := cst_bd (L := L) (op := opens a n) (sp := spares L.length a n) HG.out (fun x hx => by obtain ⟨k, hk⟩ := List.mem_iff_getElem?.1 hx; obtain ⟨y, rfl, hy⟩ := HOP.out k x hk; omega) (fun x hx => by obtain ⟨k, hk⟩ := List.mem_iff_getElem?.1 hx; obtain ⟨y, rfl, hy⟩ := HSP.out k x hk; omega)
  clear hok
  go_enter Try.func44, Try.ntmps44
  go_wp2_with fail
  refine (abOpen_any _ _ a _ _ n _ ha hn hl2 hl3).mono ?_
  rintro e w1 ⟨A1, c1, rfl, ho1, hq1⟩
  go_wp2_with fail
  refine (abSpare_any _ _ L _ _ a _ _ n _ (ha.below hq1) (hn.below hq1) hl hl2 hl3).mono ?_
  rintro e w2 ⟨A2, c2, rfl, ho2, hq2⟩
  have hb1 : Below w.heap.size w w2 := hq1.trans (hq2.mono hq1.size)
  have HO1 := Lib.hid (Mem.below (Mem.of_own ho1) hq2)
  have HO2 := Lib.hid (Mem.of_own ho2)
  have HM := Lib.hid (hm.below hb1)
  have HB1 := Lib.hid hb1
  have zz := hb1.size
  clear ho1 ho2 hq1 hq2 hm ha hn hb1
  generalize opens a n = op at *
  generalize spares L.length a n = sp at *
  by_cases h1 : op.length ≤ sp.length
  case neg =>
    have h1' : (sp.length : Int) < (op.length : Int) := by omega
    have HA := Lib.hid (show lcA L a n = false by rw [HLA.out]; simpa using h1)
    go_wp2_with fail
    go_ret3
    exact RetInts3.none_ (by rw [HLL.out, HA.out]; rfl) (by rw [HLN.out, HA.out]; rfl) HA.out HB1.out
  have HA := Lib.hid (show lcA L a n = true by rw [HLA.out]; simpa using h1)
  have h1' : ¬ (sp.length : Int) < (op.length : Int) := by omega
  by_cases h2 : op.length = 0
  · have h2' : ((op.length : Int) == 0) = true := by rw [h2]; rfl
    have h2'' : op = [] := List.eq_nil_of_length_eq_zero h2
    have HLV := Lib.hid (show lcV L op sp = [] by subst h2''; rfl)
    have HLS := Lib.hid (show lcSum L op sp = 0 by subst h2''; rfl)
    clear h2''
    go_wp2_with fail
    go_ret3
    exact RetInts3.none_ (by rw [HLL.out, HA.out, if_pos rfl]; exact HLV.out) (by rw [HLN.out, HA.out, if_pos rfl]; exact HLS.out) HA.out HB1.out
  have h2' : ((op.length : Int) == 0) = false := beq_eq_false_iff_ne.2 (by omega)
  obtain ⟨m, hmm⟩ : ∃ m, op.length = m := ⟨_, rfl⟩
  obtain ⟨q, hqq⟩ : ∃ q, sp.length = q := ⟨_, rfl⟩
  rw [hmm] at h1 h1' h2 h2' hol hcst ⊢
  rw [hqq] at h1 h1' hsl hcst ⊢
  have hq12 : q ≤ 12 := by omega
  have HPB := Lib.hid (pad_bd h1 hcst)
  have HPK := Lib.hid (lc_pick hqq hmm h1 hq12 hcst)
  have HMM := Lib.hid hmm
  have HQQ := Lib.hid hqq
  clear hmm hqq hcst
  go_wp2_with fail
  go_loopw [11, 12, 39] (fun cv _ i wr => ∃ (r : Nat) (hs : List (Option Addr × Nat)), r ≤ q ∧ i = .int .i64 r ∧ CstO wr w2.heap.size cv r q hs (pad (cst L op sp) m) ∧ Below w2.heap.size w2 wr) (fun _ _ i _ => q - (intOf i).toNat)
  case atStart => exact ⟨0, [], by omega, rfl, ⟨rfl, World.ownsRow_nil _ _ _ _, fun j h hh => by simp at hh⟩, Below.refl _ _⟩
  case round =>
    obtain ⟨r, hs, hr, rfl, hC, hb⟩ := hrel
    obtain ⟨W1, hW1⟩ : ∃ x, x = wr := ⟨wr, rfl⟩
    subst hW1
    have HC := Lib.hid hC
    have HBR := Lib.hid hb
    have zz2 := hb.size
    clear hC hb
    by_cases hrq : r < q
    · go_wp2
      go_loopw [13, 15, 16, 44] (fun ov _ _ i wx => ∃ k : Nat, k ≤ q ∧ i = .int .i64 k ∧ wx.ownsRow W1.heap.size 3 1 ov k (ints ((List.range k).map (pad (cst L op sp) m r))) ∧ Below W1.heap.size W1 wx) (fun _ _ _ i _ => q - (intOf i).toNat)
      case atStart => exact ⟨0, by omega, rfl, World.ownsRow_nil _ _ _ _, Below.refl _ _⟩
      case round =>
        obtain ⟨k, hk, rfl, hown, hb⟩ := hrel
        have HO := Lib.hid hown
        have HBX := Lib.hid hb
        have zz3 := hb.size
        have hb2 : Below w2.heap.size w2 wr := HBR.out.trans (hb.mono zz2)
        by_cases hkq : k < q
        · obtain ⟨z, hz⟩ := some_of_lt (L := sp) (k := k) (by have := HQQ.out; omega)
          obtain ⟨b2, o2, rfl, e2⟩ := (HO2.out.below hb2).int hz
          obtain ⟨z, rfl, hzl⟩ := HSP.out k z hz
          have HSN := Lib.hid (range_snoc (pad (cst L op sp) m r) k)
          clear hown hb
          by_cases hrm : r < m
          · obtain ⟨y, hy⟩ := some_of_lt (L := op) (k := r) (by have := HMM.out; omega)
            obtain ⟨b1, o1, rfl, e1⟩ := (HO1.out.below hb2).int hy
            obtain ⟨y, rfl, hyl⟩ := HOP.out r y hy
            obtain ⟨s, hs1⟩ := some_of_lt hzl
            obtain ⟨u, hu1⟩ := some_of_lt hyl
            obtain ⟨b, off, rfl, e3, e4⟩ := (HM.out.below hb2).spot hs1
            obtain ⟨b', off', e5, e6, e7⟩ := (HM.out.below hb2).spot hu1
            obtain ⟨rfl, rfl⟩ : b = b' ∧ off = off' := by simpa using e5
            have hsg := all_at HG.out hs1
            have hug := all_at HG.out hu1
            have HPD := Lib.hid (show pad (cst L op sp) m r k = sq s u by rw [pad, if_pos hrm]; exact cst_at hy hz hs1 hu1)
            have k1 := cell_regrown (w := wr) e1
            have k2 := cell_regrown (w := wr) e2
            have k3 := cell_regrown (w := wr) e3
            have k4 := cell_regrown (w := wr) e4
            have k6 := cell_regrown (w := wr) e6
            have k7 := cell_regrown (w := wr) e7
            have cc : ∀ t v : Sp, isSp t = true → isSp v = true → ∀ dd os, Calls Try.prog 55 #[.agg #[.int .i64 t.x, .int .i64 t.y], .agg #[.int .i64 v.x, .int .i64 v.y]] (grow (redrawn wr dd) os) fun e w'' => e = .returned (.int .i64 (sq t v)) ∧ ∃ p : Regrown, w'' = grow (redrawn wr p.d) p.os :=
              fun t v ht hv dd os => Calls.regrown_of ((stSquare_any t v ht hv _).mono (by rintro e w' ⟨rfl, o1, o2, rfl⟩; exact ⟨rfl, ((Below.refl _ _).alloc (Nat.le_refl _) _).alloc (by simp) _⟩))
            have C1 := Lib.hid cc
            have HB2 := Lib.hid hb2
            clear hy hz hs1 hu1 e5 cc hb2
            go_wp2
            refine wp_region_quiet_below (by kernel_rfl) (by kernel_rfl) ?_
            repeat (quiet_step (exact C1.out _ _ (by assumption) (by assumption) _ _))
            refine wpQuiet_nil ?_
            intro _ hw'
            obtain ⟨⟨dq, osq⟩, hw''⟩ := hw'
            subst hw''
            have hb5 := below_regrown wr dq osq
            have HO5 := Lib.hid (own_below HO.out hb5)
            have hz5 := hb5.size
            have HB5 := Lib.hid hb5
            clear k1 k2 k3 k4 k6 k7 e1 e2 e3 e4 e6 e7 hb5
            generalize grow (redrawn wr dq) osq = w6 at *
            go_wp2_with (at_builtin; refine wpList_append_one _ rfl (.tmp 64) (.tmp 66) 23 rfl W1.heap.size 3 i0 (.int .i64 0) 1 8 Try.underlying23 hi hz0 hz1 hz2 rfl (by omega) _ _ _ rfl HO5.out _ _ _ rfl rfl rfl (by omega) (by omega) (by omega) ?_; intro v' w7 hown' hb7)
            go_roundw
            case rel => exact ⟨_, _, _, _, ⟨k + 1, by omega, by go_num, by rw [HSN.out, ints_snoc, HPD.out]; exact hown', (HBX.out.trans (HB5.out.mono zz3)).trans hb7⟩, rfl, rfl, rfl, rfl⟩
            case measure => simp [intOf]; omega
          · have hrm' : ¬ (r : Int) < (m : Int) := by omega
            have HPD := Lib.hid (show pad (cst L op sp) m r k = 0 by rw [pad, if_neg hrm])
            clear hz
            go_wp2_with (at_builtin; refine wpList_append_one _ rfl (.tmp 64) (.tmp 66) 23 rfl W1.heap.size 3 i0 (.int .i64 0) 1 8 Try.underlying23 hi hz0 hz1 hz2 rfl (by omega) _ _ _ rfl HO.out _ _ _ rfl rfl rfl (by omega) (by omega) (by omega) ?_; intro v' w7 hown' hb7)
            go_roundw
            case rel => exact ⟨_, _, _, _, ⟨k + 1, by omega, by go_num, by rw [HSN.out, ints_snoc, HPD.out]; exact hown', HBX.out.trans hb7⟩, rfl, rfl, rfl, rfl⟩
            case measure => simp [intOf]; omega
        · obtain rfl : k = q := by omega
          have HC2 := Lib.hid (HC.out.below hb)
          have hfar : ∀ j, u11.ownBlock = some j → j < W1.heap.size := fun j hj => (HC.out.2.1.lt j hj).2
          obtain ⟨A3, c3, rfl⟩ := own_form hown
          have HF := Lib.hid (Far.of_own hown hfar)
          have HB2 := Lib.hid hb2
          clear hown hb hfar hb2
          go_wp2_with (at_builtin; refine wpList_append_far _ rfl (.tmp 69) (.tmp 71) 85 rfl w2.heap.size 23 i1 (.slice none 0 0) 1 24 Try.underlying85 gi gz0 gz1 gz2 rfl (by omega) _ _ _ rfl HC2.out.2.1 _ _ _ rfl rfl rfl (by omega) (by omega) (by omega) ?_; intro v' w7 hown' hb7 hfar7)
          go_roundw
          case rel =>
            refine ⟨_, _, _, _, _, _, ⟨r + 1, by omega, by go_num, ⟨hs ++ [(A3, c3)], by rw [List.length_append, HC.out.1]; rfl, by rw [List.flatMap_append]; exact hown', fun j h hj => ?_⟩, HB2.out.trans hb7⟩, rfl, rfl, rfl, rfl, rfl, rfl⟩
            by_cases hjr : j < r
            · rw [List.getElem?_append_left (by rw [HC.out.1]; omega)] at hj
              exact hfar7 _ _ (HC2.out.2.2 j h hj)
            · rw [List.getElem?_append_right (by rw [HC.out.1]; omega), HC.out.1] at hj
              have hj0 : j = r := by
                rcases Nat.lt_or_ge (j - r) 1 with h' | h'
                · omega
                · rw [List.getElem?_eq_none (by simpa using h')] at hj; cases hj
              subst hj0
              simp at hj
              subst hj
              exact hfar7 _ _ HF.out
          case measure => simp [intOf]; omega
    · obtain rfl : q = r := by omega
      obtain ⟨A4, c4, rfl⟩ := own_form HC.out.2.1
      have hq1 : 1 ≤ q := by omega
      go_wp2_with fail
      refine (maLeast_any A4 c4 q hs (pad (cst L op sp) m) W1 hq1 hq12 HC.out.cst HPB.out).mono ?_
      rintro e w5 ⟨A5, c5, rfl, ho5, hq5⟩
      rw [HPK.out.2]
      have hln := (mlS_spec hq12 HPB.out q (Nat.le_refl _)).2.2
      have HPM := Lib.hid (mlS_mem hq12 HPB.out q (Nat.le_refl _))
      have HPT := Lib.hid HPK.out.1
      obtain ⟨M, hM⟩ : ∃ M, (mlS (pad (cst L op sp) m) q q).2 = M := ⟨_, rfl⟩
      rw [hM] at ho5 hln HPM HPT
      have hb5 : Below w2.heap.size w2 w5 := HBR.out.trans (hq5.mono zz2)
      have HO5 := Lib.hid ho5
      have HB5 := Lib.hid hb5
      have zz5 := hb5.size
      have hc5 := own_cap ho5
      obtain ⟨_, rfl, hg1, hg2⟩ := own_addr ho5 (by omega)
      have hm0 : (0 : Int) ≤ (m : Int) := by omega
      have hmc : (m : Int) ≤ (c5 : Int) := by omega
      clear ho5 hM hq5 hb5
      go_wp2_with fail
      go_loopw [19, 21, 84] (fun ov _ i wx => ∃ k : Nat, k ≤ m ∧ i = .int .i64 k ∧ wx.ownsRow w5.heap.size 3 1 ov k (ints (((M.take k).map fun x => sp.getD x.toNat 0))) ∧ Below w5.heap.size w5 wx) (fun _ _ i _ => m - (intOf i).toNat)
      case atStart => exact ⟨0, by omega, rfl, World.ownsRow_nil _ _ _ _, Below.refl _ _⟩
      case round =>
        obtain ⟨k, hk, rfl, hown, hb⟩ := hrel
        have HO := Lib.hid hown
        have HBX := Lib.hid hb
        have zz6 := hb.size
        have hb2 : Below w2.heap.size w2 wr := HB5.out.trans (hb.mono zz5)
        have HB2 := Lib.hid hb2
        by_cases hkm : k < m
        · obtain ⟨x, hx⟩ := some_of_lt (L := M) (k := k) (by omega)
          obtain ⟨_, _, eq1, e1⟩ := ((Mem.of_own HO5.out).below hb).int hx
          cases eq1
          rw [Nat.zero_add] at e1
          obtain ⟨x, rfl, hxq⟩ := HPM.out x (List.mem_of_getElem? hx)
          obtain ⟨z, hz⟩ := some_of_lt (L := sp) (k := x) (by have := HQQ.out; omega)
          obtain ⟨b2, o2, rfl, e2⟩ := (HO2.out.below hb2).int hz
          have HSN := Lib.hid (show (M.take (k + 1)).map (fun x => sp.getD x.toNat 0) = (M.take k).map (fun x => sp.getD x.toNat 0) ++ [z] by rw [List.take_add_one, hx]; simp [List.getD, hz])
          clear hown hb hb2 hx hz
          go_wp2_with (at_builtin; refine wpList_append_one _ rfl (.tmp 88) (.tmp 93) 23 rfl w5.heap.size 3 i0 (.int .i64 0) 1 8 Try.underlying23 hi hz0 hz1 hz2 rfl (by omega) _ _ _ rfl HO.out _ _ _ rfl rfl rfl (by omega) (by omega) (by omega) ?_; intro v' w7 hown' hb7)
          go_roundw
          case rel => exact ⟨k + 1, by omega, by go_num, by rw [HSN.out, ints_snoc]; exact hown', HBX.out.trans hb7⟩
          case measure => simp [intOf]; omega
        · obtain rfl : k = m := by omega
          clear hb hb2
          go_wp2_with fail
          go_ret3
          refine RetInts3.some_ HA.out ?_ ?_ hown ?_ (by omega) (HB1.out.trans (HB2.out.mono zz))
          · rw [HLL.out, HA.out, if_pos rfl, HPT.out]
          · rw [HLN.out, HA.out, if_pos rfl]
          · simp; omega
end Go.Proofs.Ythppancpecjegaa
