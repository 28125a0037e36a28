/-
  Draws: charts and counts; a performer; what SheetOf is asked.
-/
import Derived.Test.YtbgbcajcajaocaaDre
import Derived.Test.YtbgbcajcajaocaaCos
namespace Go.Proofs.Ytbgbcajcajaocaa
open Go.RowKit

section
variable {w w' : World} {base n : Nat} {vo vi : Value} {hs : List (Hdr Sp)} {C : List Int}
theorem CI.oth {g : Nat} (h : CI w base vo n hs vi C) (ho : Oth g w w') (hg : g < base) : CI w' base vo n hs vi C := h.same (fun b hb hlt => ho.block b hlt (by omega))
/-- A row put in another's place. -/
theorem CI.put {go c k : Nat} {x h : Hdr Sp} (hc : CI w base (.slice (some ⟨go, 0, none⟩) n c) n hs vi C) (hk : hs[k]? = some h)
    (hx : w.ownsRow base 26 2 (.slice x.A x.L.length x.c) x.L.length (spots x.L)) (hxo : ∀ b, (hv x).ownBlock = some b → b ≠ go ∧ vi.ownBlock ≠ some b ∧ ∀ (k : Nat) (h : Hdr Sp), hs[k]? = some h → (hv h).ownBlock ≠ some b) :
    CI (w.setCell ⟨go, k, none⟩ (.slice x.A x.L.length x.c)) base (.slice (some ⟨go, 0, none⟩) n c) n (hs.set k x) vi C := by
  have hoth : ∀ {e : TypeId} {sz m : Nat} {v : Value} {xs : List Value}, w.ownsRow base e sz v m xs → (∀ b, v.ownBlock = some b → b ≠ go) → (w.setCell ⟨go, k, none⟩ (.slice x.A x.L.length x.c)).ownsRow base e sz v m xs := fun ho2 hne =>
    own_same ho2 (fun g hg => heap_setCell_other _ _ _ _ (hne g hg))
  have hrow : ∀ (j : Nat) (y : Hdr Sp), (hs.set k x)[j]? = some y → y = x ∧ j = k ∨ hs[j]? = some y ∧ j ≠ k := fun j y hy => by
    by_cases e : j = k
    · subst e
      rw [List.getElem?_set_self (List.getElem?_eq_some_iff.1 hk).1] at hy
      exact .inl ⟨(Option.some.inj hy).symm, rfl⟩
    · rw [List.getElem?_set_ne (fun e2 => e e2.symm)] at hy
      exact .inr ⟨hy, e⟩
  refine ⟨by rw [List.length_set, hc.len], ?_, fun j y hy => ?_, fun i j y z hij hi hj b hb => ?_, hoth hc.ints_ (fun b hb e => hc.ne b hb (by subst e; rfl)), hc.ne⟩
  · rw [hcs_set]
    exact (hc.own.stored k (.slice x.A x.L.length x.c)).1
  · rcases hrow j y hy with ⟨rfl, rfl⟩ | ⟨hy, _⟩
    · exact ⟨hoth hx (fun b hb => (hxo b hb).1), fun b hb => ⟨fun e => (by have h9 : go = b := Option.some.inj e; exact (hxo b hb).1 h9.symm), (hxo b hb).2.1⟩⟩
    · have h3 := hc.row j y hy
      exact ⟨hoth h3.1 (fun b hb e => (h3.2 b hb).1 (by subst e; rfl)), h3.2⟩
  · rcases hrow i y hi with ⟨g1, g2⟩ | ⟨g1, _⟩ <;> rcases hrow j z hj with ⟨g3, g4⟩ | ⟨g3, _⟩
    · omega
    · subst g1
      exact (hxo b hb).2.2 j z g3
    · subst g3
      exact fun e => (hxo b e).2.2 i y g1 hb
    · exact hc.apart i j y z hij g1 g3 b hb
/-- A count set anew. -/
theorem CI.iset {gi d j : Nat} {x : Int} (hc : CI w base vo n hs (.slice (some ⟨gi, 0, none⟩) C.length d) C) : CI (w.setCell ⟨gi, j, none⟩ (.int .i64 x)) base vo n hs (.slice (some ⟨gi, 0, none⟩) (C.set j x).length d) (C.set j x) := by
  have hoth : ∀ {e : TypeId} {sz m : Nat} {v : Value} {xs : List Value}, w.ownsRow base e sz v m xs → (∀ b, v.ownBlock = some b → b ≠ gi) → (w.setCell ⟨gi, j, none⟩ (.int .i64 x)).ownsRow base e sz v m xs := fun ho2 hne =>
    own_same ho2 (fun g hg => heap_setCell_other _ _ _ _ (hne g hg))
  have hl : (C.set j x).length = C.length := List.length_set
  refine ⟨hc.len, hoth hc.own (fun b hb e => hc.ne gi rfl (by rw [hb, e])), fun k y hy => ?_, hc.apart, ?_, fun b hb => hc.ne b (by rw [hl] at hb; exact hb)⟩
  · have h3 := hc.row k y hy
    exact ⟨hoth h3.1 (fun b hb e => (h3.2 b hb).2 (by subst e; rfl)), fun b hb => ⟨(h3.2 b hb).1, by rw [hl]; exact (h3.2 b hb).2⟩⟩
  · rw [hl, ints_set]
    exact (hc.ints_.stored j (.int .i64 x)).1
theorem CI.first {A : Option Addr} {c : Nat} {L : List Sp} (hx : w.ownsRow base 26 2 (.slice A L.length c) L.length (spots L)) (hb : base ≤ w.heap.size) : CI (w.alloc (.cells #[.slice A L.length c] 59)) base (.slice (some ⟨w.heap.size, 0, none⟩) 1 1) 1 [⟨A, c, L⟩] (.slice none 0 0) [] := by
  have hbk := Blk.new w #[.slice A L.length c] 59
  refine ⟨rfl, ⟨rfl, .inr ⟨w.heap.size, 1, _, rfl, hb, hbk, Nat.le_refl _, by unfold maxLen; omega, rfl, rfl⟩⟩, fun k h e => ?_, fun i j h h' hij e1 e2 => ?_, World.ownsRow_nil _ _ _ _, fun b e => by simp [Value.ownBlock] at e⟩
  · match k, e with
    | 0, e =>
      obtain rfl := Option.some.inj e
      exact ⟨own_below hx (below_alloc _ _), fun b hb => ⟨fun e => (by have h9 : w.heap.size = b := Option.some.inj e; have := (hx.lt b hb).2; omega), by simp [Value.ownBlock]⟩⟩
    | k + 1, e => simp at e
  · match i, j, e1, e2, hij with
    | 0, 0, _, _, h => exact absurd rfl h
    | 0, j + 1, _, e2, _ => simp at e2
    | i + 1, _, e1, _, _ => simp at e1
end
/-- Charts and counts are drawn. -/
def Da (g k : Nat) (w : World) (e : Ending) (w' : World) : Prop :=
  ∃ n vo hs vi C, e = .returned (.tuple #[vo, vi]) ∧ CI w' w.heap.size vo n hs vi C ∧ n ≤ 12 ∧ (∀ (q : Nat) (h : Hdr Sp), hs[q]? = some h → h.L.length ≤ 13) ∧ C.length ≤ 12 ∧ Cur w' g k ∧ Oth g w w'
theorem hlen_set {hs : List (Hdr Sp)} {x : Hdr Sp} {k : Nat} (h : ∀ (q : Nat) (h : Hdr Sp), hs[q]? = some h → h.L.length ≤ 13) (hx : x.L.length ≤ 13) : ∀ (q : Nat) (h : Hdr Sp), (hs.set k x)[q]? = some h → h.L.length ≤ 13 := fun q y hy => by
  rcases List.mem_or_eq_of_mem_set (List.mem_of_getElem? hy) with h1 | h1
  · obtain ⟨j, hj⟩ := List.getElem?_of_mem h1
    exact h j y hj
  · subst h1; exact hx
theorem hlen_snoc {hs : List (Hdr Sp)} {x : Hdr Sp} (h : ∀ (q : Nat) (h : Hdr Sp), hs[q]? = some h → h.L.length ≤ 13) (hx : x.L.length ≤ 13) : ∀ (q : Nat) (h : Hdr Sp), (hs ++ [x])[q]? = some h → h.L.length ≤ 13 := fun q y hy => by
  rcases get_snoc hy with h1 | ⟨_, h1⟩
  · exact h q y h1
  · subst h1; exact hx
set_option maxRecDepth 100000 in
set_option maxHeartbeats 6400000 in
theorem chartsAll_any (g k : Nat) (w : World) (h : Cur w g k) (hk : k ≤ 300000) : Calls Try.prog 58 #[.pointer (some ⟨g, 0, none⟩)] w (Da g (k + 80000) w) := by
  obtain ⟨i0, hi, hz0, hz1, hz2⟩ := info_parts info_spotss
  obtain ⟨i2, hi2, hz02, hz12, hz22⟩ := info_parts info_int
  have hlt0 := h.lt
  go_enter Try.func58, Try.ntmps58
  go_wp2_with fail
  refine (pick_any g k _ _ 3 h (by omega) (by omega) (by omega) (by omega)).mono ?_
  rintro e w1 ⟨n, rfl, n0, n1, hc1, ho1⟩
  have O1 := Lib.hid ho1
  have z1 : w.heap.size ≤ w1.heap.size := ho1.size
  clear ho1 h
  obtain ⟨n, rfl⟩ := Int.eq_ofNat_of_zero_le n0
  go_wp2_with fail
  rw [show (1 : Int) + (n : Int) = ((1 + n : Nat) : Int) by omega]
  obtain ⟨m, hm⟩ : ∃ m, 1 + n = m := ⟨_, rfl⟩
  have hm4 : m ≤ 4 := by omega
  rw [hm]
  clear hm n0 n1
  refine (chartOf_any g (k + 2) m _ hc1 (by omega) (by omega)).mono ?_
  rintro e w2 ⟨A', c', L, rfl, hl, hx, hsm, hc2, ho2⟩
  have O2 := Lib.hid ((O1.out.trans ho2).alloc (.cells #[.slice A' L.length c'] 59))
  have z2 : w.heap.size ≤ w2.heap.size := (O1.out.trans ho2).size
  have X2 := Lib.hid (CI.first (own_base hx z1) z2)
  have HL2 := Lib.hid (show ∀ (q : Nat) (h : Hdr Sp), [(⟨A', c', L⟩ : Hdr Sp)][q]? = some h → h.L.length ≤ 13 from fun q h e => by
    have := List.mem_of_getElem? e
    simp at this
    subst this
    show L.length ≤ 13
    omega)
  have C2 := Lib.hid (hc2.alloc (.cells #[.slice A' L.length c'] 59))
  clear ho2 hx hsm hc1 hc2 hl
  go_wp2_with fail
  refine (pick_any g (k + 4002) _ _ 3 C2.out (by omega) (by omega) (by omega) (by omega)).mono ?_
  rintro e w3 ⟨a, rfl, a0, a1, hc3, ho3⟩
  have O3 := Lib.hid (O2.out.trans ho3)
  have X3 := Lib.hid (X2.out.oth ho3 hlt0)
  clear ho3 C2
  go_wp2_with fail
  refine (one_any g (k + 4004) _ _ hc3 (by omega) (by omega)).mono ?_
  rintro e w4 ⟨b, rfl, hc4, ho4⟩
  have O4 := Lib.hid (O3.out.trans ho4)
  have X4 := Lib.hid (X3.out.oth ho4 hlt0)
  clear ho4 hc3
  go_upto_if 19 with (fail)
  go_cut [6] from 20 to 22 (fun v wx => ∃ q : Int, v = .int .i64 q ∧ 1 ≤ q ∧ q ≤ 10 ∧ Hid (CI wx w.heap.size (.slice (some ⟨w2.heap.size, 0, none⟩) 1 1) 1 [⟨A', c', L⟩] (.slice none 0 0) []) ∧ Hid (Cur wx g (k + 4008)) ∧ Hid (Oth g w wx))
  case first =>
    cases b
    · have C4 := Lib.hid (hc4.mono (k' := k + 4008) (by omega))
      clear hc4
      go_wp2_with fail
      go_meet
      exact ⟨1 + a, rfl, by omega, by omega, X4, C4, O4⟩
    · go_wp2_with fail
      refine (pick_any g (k + 4006) _ _ 1 hc4 (by omega) (by omega) (by omega) (by omega)).mono ?_
      rintro e w5 ⟨q, rfl, q0, q1, hc5, ho5⟩
      have O5 := Lib.hid (O4.out.trans ho5)
      have X5 := Lib.hid (X4.out.oth ho5 hlt0)
      have C5 := Lib.hid hc5
      clear ho5 hc4 hc5
      go_wp2_with fail
      go_meet
      exact ⟨9 + q, rfl, by omega, by omega, X5, C5, O5⟩
  case rest =>
    obtain ⟨q, rfl, q0, q1, X5, C5, O5⟩ := hcut
    clear O1 X2 O2 X3 O3 X4 O4 hc4
    go_wp2_with fail
    go_loopw [5, 7] (fun vo vi wr => ∃ (n : Nat) (hs : List (Hdr Sp)) (C : List Int), 1 ≤ n ∧ n ≤ 10 ∧ C.length + 1 = n ∧ CI wr w.heap.size vo n hs vi C ∧ Hid (∀ (q : Nat) (h : Hdr Sp), hs[q]? = some h → h.L.length ≤ 13) ∧ Cur wr g (k + 4008 + n * 4010) ∧ Oth g w wr) (fun vo _ _ => 64 - lenOf vo)
    case atStart => exact ⟨1, _, [], by omega, by omega, rfl, X5.out, HL2, C5.out.mono (by omega), O5.out⟩
    case round =>
      obtain ⟨n, hs, C, n1, n2, hCn, hCI, HLN, hcur, hoth⟩ := hrel
      obtain ⟨A, c, rfl⟩ := own_form hCI.own
      obtain ⟨B, d, rfl⟩ := own_form hCI.ints_
      have HCI := Lib.hid hCI
      have HO := Lib.hid hoth
      have hC9 : C.length ≤ 9 := by omega
      have HCN := Lib.hid hCn
      have hzr := hoth.size
      clear X5 C5 O5 HL2 hCI hoth hCn
      by_cases hlt : (n : Int) < q
      · go_wp2_with fail
        refine (chartOf_any g (k + 4008 + n * 4010) m _ hcur (by omega) (by omega)).mono ?_
        rintro e w6 ⟨A6, c6, L6, rfl, hl6, hx6, hsm6, hc6, ho6⟩
        have HX6 := Lib.hid (show w6.ownsRow w.heap.size 26 2 (.slice A6 L6.length c6) L6.length (spots L6) from own_base hx6 hzr)
        have HC6 := Lib.hid (HCI.out.oth ho6 hlt0)
        have HXO := Lib.hid (show ∀ b, (hv ⟨A6, c6, L6⟩).ownBlock = some b → (Value.slice A n c).ownBlock ≠ some b ∧ (Value.slice B C.length d).ownBlock ≠ some b ∧ ∀ (q : Nat) (h : Hdr Sp), hs[q]? = some h → (hv h).ownBlock ≠ some b from fun b hb => by
          have h1 := (hx6.lt b hb).1
          exact ⟨fun e => (by have := (HCI.out.own.lt _ e).2; omega), fun e => (by have := (HCI.out.ints_.lt _ e).2; omega), fun q h hq e => (by have := ((HCI.out.row q h hq).1.lt _ e).2; omega)⟩)
        have O6 := Lib.hid (HO.out.trans ho6)
        have C6 := Lib.hid hc6
        have hl13 : L6.length ≤ 13 := by omega
        have hz6 : w.heap.size ≤ w6.heap.size := O6.out.size
        clear ho6 hx6 hsm6 hc6 hcur hl6
        go_wp2_with (at_builtin; (refine wpList_append_keep _ rfl (.tmp 27) (.tmp 31) 32 rfl w.heap.size 59 i0 (.slice none 0 0) 1 24 Try.underlying32 hi hz0 hz1 hz2 rfl (by omega) _ _ _ rfl HC6.out.own _ _ _ (congrArg (fun g => Value.slice (some ⟨g, 0, none⟩) 1 1) (by simp)) rfl rfl (by omega) (by omega) (by omega) ?_; intro v' w7 hown' hb7 hkeep hsz7; have HC7 := Lib.hid (HC6.out.chart (x := ⟨A6, c6, L6⟩) HX6.out HXO.out hown' hkeep); have C7 := Lib.hid (C6.out.below hb7 hlt0); have O7 := Lib.hid (Oth.of_base hb7 hz6 O6.out); obtain ⟨A7, c7, rfl⟩ := own_form hown'; clear hkeep hown' hb7))
        have hz7 : w.heap.size ≤ w7.heap.size := O7.out.size
        have hg7 := C7.out.lt
        refine (among_any g (k + 4008 + n * 4010 + 4000) _ _ _ _ [1, 4, 8, 16, 64] 0 65 _ (C7.out.alloc _) (by omega) (Blk.new _ _ _) rfl rfl (by omega) (by simp) (by simp) (by simp)).mono ?_
        rintro e w8 ⟨x, rfl, x0, x1, hc8, ho8⟩
        have O8 := Lib.hid ((O7.out.alloc _).trans ho8)
        have HC8 := Lib.hid ((HC7.out.below (below_alloc _ _)).oth ho8 hlt0)
        have C8 := Lib.hid hc8
        have hz8 : w.heap.size ≤ w8.heap.size := O8.out.size
        clear ho8 hc8
        go_wp2_with (at_builtin; (refine wpList_append_keep _ rfl (.tmp 33) (.tmp 37) 23 rfl w.heap.size 3 i2 (.int .i64 0) 1 8 Try.underlying23 hi2 hz02 hz12 hz22 rfl (by omega) _ _ _ rfl HC8.out.ints_ _ _ _ (congrArg (fun g => Value.slice (some ⟨g, 0, none⟩) 1 1) (by simp)) rfl rfl (by omega) (by omega) (by omega) ?_; intro v' w9 hown' hb9 hkeep hsz9; have HC9 := Lib.hid (HC8.out.count hown' hkeep); have C9 := Lib.hid (C8.out.below hb9 hlt0); have O9 := Lib.hid (Oth.of_base hb9 hz8 O8.out); clear hkeep hown' hb9))
        go_roundw
        case rel => exact ⟨n + 1, hs ++ [⟨A6, c6, L6⟩], C ++ [x], by omega, by omega, by rw [List.length_append, List.length_singleton, HCN.out], HC9.out, Lib.hid (hlen_snoc HLN.out hl13), C9.out.mono (by omega), O9.out⟩
        case measure => simp [lenOf]; omega
      · go_wp2_with fail
        refine (pick_any g (k + 4008 + n * 4010) _ _ 23 hcur (by omega) (by omega) (by omega) (by omega)).mono ?_
        rintro e w6 ⟨r, rfl, r0, r1, hc6, ho6⟩
        have O6 := Lib.hid (HO.out.trans ho6)
        have X6 := Lib.hid (HCI.out.oth ho6 hlt0)
        have hz6 : w.heap.size ≤ w6.heap.size := O6.out.size
        clear ho6 hcur HO HCI hzr
        obtain ⟨go, rfl, hgo1, hgo2⟩ := own_addr X6.out.own (by omega)
        by_cases h0 : r = 0
        · subst h0
          go_wp2_with fail
          refine (anyChart_any g (k + 4008 + n * 4010 + 2) _ hc6 (by omega)).mono ?_
          rintro e w7 ⟨A7, c7, L7, rfl, hl7, hx7, hsm7, hc7, ho7⟩
          have O7 := Lib.hid (O6.out.trans ho7)
          have HXO := Lib.hid (show ∀ b, (hv ⟨A7, c7, L7⟩).ownBlock = some b → b ≠ go ∧ (Value.slice B C.length d).ownBlock ≠ some b ∧ ∀ (q : Nat) (h : Hdr Sp), hs[q]? = some h → (hv h).ownBlock ≠ some b from fun b hb => by
            have h1 := (hx7.lt b hb).1
            exact ⟨by omega, fun e => (by have := (X6.out.ints_.lt _ e).2; omega), fun q h hq e => (by have := ((X6.out.row q h hq).1.lt _ e).2; omega)⟩)
          have HX7 := Lib.hid (show w7.ownsRow w.heap.size 26 2 (.slice A7 L7.length c7) L7.length (spots L7) from own_base hx7 hz6)
          have X7 := Lib.hid (X6.out.oth ho7 hlt0)
          have C7 := Lib.hid hc7
          obtain ⟨y, hy⟩ := some_of_lt (L := hs) (k := n - 1) (by rw [X6.out.len]; omega)
          have HY := Lib.hid hy
          have cy := (X7.out.own.cellAt (n - 1) (by omega)).trans (hcs_get hy)
          have fy := X7.out.own.frozenAt (n - 1)
          have j1 : (n : Int) - 1 < (n : Int) := by omega
          have j2 : (0 : Int) ≤ (n : Int) - 1 := by omega
          have j3 : ((n : Int) - 1).toNat = n - 1 := by omega
          clear ho7 hx7 hsm7 hc7 hc6 hy
          go_wp2_with fail
          go_ret2
          exact ⟨n, _, _, _, _, rfl, X7.out.put HY.out HX7.out HXO.out, by omega, hlen_set HLN.out hl7, by omega, (C7.out.put1 (by show g < go; omega)).mono (by omega), O7.out.set (.inr hgo1) _⟩
        have e0 : ((r : Int) == 0) = false := beq_eq_false_iff_ne.2 h0
        have C6 := Lib.hid hc6
        clear h0
        by_cases h1 : r = 1
        · subst h1
          clear hc6
          go_wp2_with (at_builtin; (refine wpList_append_keep _ rfl (.tmp 52) (.tmp 53) 23 rfl w.heap.size 3 i2 (.int .i64 0) 1 8 Try.underlying23 hi2 hz02 hz12 hz22 rfl (by omega) _ _ _ rfl X6.out.ints_ _ _ _ (congrArg (fun g => Value.slice (some ⟨g, 0, none⟩) 1 1) (by simp)) rfl rfl (by omega) (by omega) (by omega) ?_; intro v' w9 hown' hb9 hkeep hsz9; have HC9 := Lib.hid (X6.out.count hown' hkeep); have C9 := Lib.hid (C6.out.below hb9 hlt0); have O9 := Lib.hid (Oth.of_base hb9 hz6 O6.out); clear hkeep hown' hb9))
          go_ret2
          exact ⟨n, _, _, _, _, rfl, HC9.out, by omega, HLN.out, by rw [List.length_append]; simp; omega, C9.out.mono (by omega), O9.out⟩
        have e1 : ((r : Int) == 1) = false := beq_eq_false_iff_ne.2 h1
        clear h1
        by_cases h2 : r = 2
        · subst h2
          by_cases hcn : 0 < C.length
          case neg =>
            have hCC : C = [] := List.eq_nil_of_length_eq_zero (by omega)
            subst hCC
            clear hc6 hcn
            go_wp2_with fail
            go_ret2
            exact ⟨n, _, _, _, [], rfl, X6.out, by omega, HLN.out, by simp, C6.out.mono (by omega), O6.out⟩
          · have hcc : (0 : Int) < (C.length : Int) := by omega
            have hg6 := hc6.lt
            go_wp2_with fail
            refine (among_any g (k + 4008 + n * 4010 + 2) _ _ _ _ [0, 65] 0 65 _ (hc6.alloc _) (by omega) (Blk.new _ _ _) rfl rfl (by omega) (by simp) (by simp) (by simp)).mono ?_
            rintro e w7 ⟨x, rfl, x0, x1, hc7, ho7⟩
            have O7 := Lib.hid ((O6.out.alloc _).trans ho7)
            have X7 := Lib.hid ((X6.out.below (below_alloc _ _)).oth ho7 hlt0)
            have C7 := Lib.hid hc7
            obtain ⟨gi, rfl, hgi1, hgi2⟩ := own_addr X7.out.ints_ (by omega)
            obtain ⟨y, hy⟩ := some_of_lt (L := ints C) (k := 0) (by rw [ints_len]; omega)
            have cy := (X7.out.ints_.cellAt 0 (by omega)).trans hy
            have fy := X7.out.ints_.frozenAt 0
            clear ho7 hc7 hc6 hy
            go_wp2_with fail
            go_ret2
            exact ⟨n, _, _, _, C.set 0 x, by rw [List.length_set]; rfl, X7.out.iset, by omega, HLN.out, by rw [List.length_set]; omega, (C7.out.put1 (by show g < gi; omega)).mono (by omega), O7.out.set (.inr hgi1) _⟩
        have e2 : ((r : Int) == 2) = false := beq_eq_false_iff_ne.2 h2
        clear h2
        by_cases h3 : r = 3
        · subst h3
          clear hc6
          go_wp2_with fail
          go_ret2
          exact ⟨0, _, [], _, [], rfl, CI.nil _ _, by omega, (fun q h e => by simp at e), by simp, C6.out.mono (by omega), O6.out⟩
        have e3 : ((r : Int) == 3) = false := beq_eq_false_iff_ne.2 h3
        clear h3 hc6
        go_wp2_with fail
        go_ret2
        exact ⟨n, _, _, _, _, rfl, X6.out, by omega, HLN.out, by omega, C6.out.mono (by omega), O6.out⟩
set_option maxHeartbeats 1600000 in
set_option maxRecDepth 100000 in
theorem performer_any (g k : Nat) (A : Option Addr) (c n : Nat) (w : World) (h : Cur w g k) (hk : k ≤ 400000) (hn : n ≤ 1000) : Calls Try.prog 59 #[.pointer (some ⟨g, 0, none⟩), .slice A n c] w (Dn g (k + 6) (-1) 1001 w) := by
  go_enter Try.func59, Try.ntmps59
  go_wp2_with fail
  refine (pick_any g k _ _ 15 h (by omega) (by omega) (by omega) (by omega)).mono ?_
  rintro e w1 ⟨a, rfl, a0, a1, hc1, ho1⟩
  have O1 := Lib.hid ho1
  clear ho1 h
  have hq0 : 0 ≤ Int.tdiv a 15 := Int.tdiv_nonneg a0 (by omega)
  have hq1 : Int.tdiv a 15 ≤ 1 := by rw [Int.tdiv_eq_ediv_of_nonneg a0]; omega
  go_wp2_with fail
  refine (pick_any g (k + 2) _ _ 1000 hc1 (by omega) (by omega) (by omega) (by omega)).mono ?_
  rintro e w2 ⟨b, rfl, b0, b1, hc2, ho2⟩
  have O2 := Lib.hid (O1.out.trans ho2)
  clear ho2 hc1
  go_wp2_with fail
  refine (pick_any g (k + 4) _ _ 23 hc2 (by omega) (by omega) (by omega) (by omega)).mono ?_
  rintro e w3 ⟨d, rfl, d0, d1, hc3, ho3⟩
  have O3 := Lib.hid (O2.out.trans ho3)
  have C3 := Lib.hid hc3
  clear ho3 hc2 hc3
  have hr0 : 0 ≤ Int.tdiv d 23 := Int.tdiv_nonneg d0 (by omega)
  have hr1 : Int.tdiv d 23 ≤ 1 := by rw [Int.tdiv_eq_ediv_of_nonneg d0]; omega
  go_wp2_with fail
  go_ret
  exact ⟨_, rfl, by omega, by omega, C3.out, O3.out⟩
end Go.Proofs.Ytbgbcajcajaocaa
