/-
  Slices of sheets in memory; the laws' own functions on them.
-/
import Derived.Test.YtbgbcajcajaocaaRo
namespace Go.Proofs.Ytbgbcajcajaocaa
open Go.RowKit Go.Sort Go.Lib

/-- A sheet in memory. -/
structure Shd where
  p : Int
  s : Sp
  h : Hdr Rw
def shs (L : List Shd) : List Value := L.flatMap fun a => [Value.int .i64 a.p, Value.int .i64 a.s.x, Value.int .i64 a.s.y, Value.slice a.h.A a.h.L.length a.h.c]
theorem Rd_sheetd {H : Type} (enc : TypeId × Value → H) (w : World) : Rd enc Try.prog w 80 4 (fun a : Shd => [Value.int .i64 a.p, Value.int .i64 a.s.x, Value.int .i64 a.s.y, Value.slice a.h.A a.h.L.length a.h.c])
    (fun a => okInt a.p ∧ okSp a.s ∧ okHdr w (fun s : Rw => [Value.int .i64 s.c, Value.int .i64 s.t.x, Value.int .i64 s.t.y]) okRw a.h) :=
  (Rd_sheet enc w).conv (fun a => (⟨a.1, a.2.1, a.2.2⟩ : Shd)) (fun _ => rfl) (fun _ => rfl) (fun _ h => h)
theorem shs_len (L : List Shd) : (shs L).length = L.length * 4 := flat_len _ 4 (fun _ => rfl) L
theorem Mem.sheet {w : World} {A : Option Addr} {L : List Shd} (h : Mem w A (shs L)) {k : Nat} {a : Shd} (hk : L[k]? = some a) :
    ∃ b off, A = some ⟨b, off, none⟩ ∧ w.cell? ⟨b, off + k * 4, none⟩ = some (.int .i64 a.p) ∧ w.cell? ⟨b, off + k * 4 + 1, none⟩ = some (.int .i64 a.s.x) ∧ w.cell? ⟨b, off + k * 4 + 2, none⟩ = some (.int .i64 a.s.y) ∧ w.cell? ⟨b, off + k * 4 + 3, none⟩ = some (.slice a.h.A a.h.L.length a.h.c) := by
  obtain ⟨b, off, e, hc⟩ := Mem.elem (sz := 4) (fun _ => rfl) h hk (by omega)
  exact ⟨b, off, e, hc 0 _ rfl, hc 1 _ rfl, hc 2 _ rfl, hc 3 _ rfl⟩
theorem shs_set : ∀ (L : List Shd) (k : Nat) (a : Shd), shs (L.set k a) = ((((shs L).set (k * 4) (.int .i64 a.p)).set (k * 4 + 1) (.int .i64 a.s.x)).set (k * 4 + 2) (.int .i64 a.s.y)).set (k * 4 + 3) (.slice a.h.A a.h.L.length a.h.c)
  | [], _, _ => by simp [shs]
  | x :: L, 0, a => by simp [shs]
  | x :: L, k + 1, a => by
    have := shs_set L k a
    have e1 : (k + 1) * 4 = k * 4 + 1 + 1 + 1 + 1 := by omega
    simp only [shs, List.set_cons_succ, List.flatMap_cons, List.cons_append, List.nil_append, e1] at *
    rw [this]
/-- All but the rows' header set anew. -/
theorem shs_set3 {L : List Shd} {k : Nat} {a : Shd} (hk : L[k]? = some a) (p x y : Int) : shs (L.set k ⟨p, ⟨x, y⟩, a.h⟩) = (((shs L).set (k * 4) (.int .i64 p)).set (k * 4 + 1) (.int .i64 x)).set (k * 4 + 2) (.int .i64 y) := by
  rw [shs_set]
  have hl := (List.getElem?_eq_some_iff.1 hk).1
  apply List.ext_getElem?
  intro j
  by_cases hj : j = k * 4 + 3
  · subst hj
    have h3 := flat_get (fun a : Shd => [Value.int .i64 a.p, Value.int .i64 a.s.x, Value.int .i64 a.s.y, Value.slice a.h.A a.h.L.length a.h.c]) 4 (fun _ => rfl) L k a hk 3 (by omega)
    have h4 : (shs L)[k * 4 + 3]? = some (.slice a.h.A a.h.L.length a.h.c) := h3
    rw [List.getElem?_set_self (by simp [shs_len]; omega), List.getElem?_set_ne (by omega), List.getElem?_set_ne (by omega), List.getElem?_set_ne (by omega), h4]
  · rw [List.getElem?_set_ne (fun e => hj e.symm)]
/-- Slices of sheets that can be read. -/
structure SGrid (w : World) (A : Option Addr) (L : List Shd) : Prop where
  mem : Mem w A (shs L)
  row : ∀ (k : Nat) (a : Shd), L[k]? = some a → Mem w a.h.A (rows a.h.L)
theorem SGrid.below {w w' : World} {A : Option Addr} {L : List Shd} (h : SGrid w A L) (hb : Below w.heap.size w w') : SGrid w' A L :=
  ⟨h.mem.below hb, fun k x hx => (h.row k x hx).below hb⟩
/-- What the sheets are. -/
def shv (L : List Shd) : List (Int × Sp × List Rw) := L.map fun a => (a.p, a.s, a.h.L)
theorem shv_len (L : List Shd) : (shv L).length = L.length := by simp [shv]
theorem shv_at {L : List Shd} {k : Nat} {a : Shd} (e : L[k]? = some a) : (shv L)[k]? = some (a.p, a.s, a.h.L) := by simp [shv, e]
/-- Their rows. -/
def shr (L : List Shd) : List (List Rw) := L.map fun a => a.h.L
theorem shr_len (L : List Shd) : (shr L).length = L.length := by simp [shr]
theorem shr_at {L : List Shd} {k : Nat} {a : Shd} (e : L[k]? = some a) : (shr L)[k]? = some a.h.L := by simp [shr, e]
theorem shr_shv (L : List Shd) : shr L = (shv L).map fun x => x.2.2 := by simp [shr, shv]

def szV2 (n : Nat) (G : List (List Rw)) (left : Int) : Int := if (n : Int) + tot G ≤ left then left - n - tot G else -1
set_option maxRecDepth 100000 in
set_option maxHeartbeats 1600000 in
theorem szSheetS_any (A : Option Addr) (c : Nat) (L : List Shd) (left : Int) (w : World) (hm : Mem w A (shs L)) (hl : L.length ≤ 9223372036854775807) (hr : ∀ (k : Nat) (a : Shd), L[k]? = some a → a.h.L.length ≤ 9223372036854775807) (h0 : 0 ≤ left) (h1 : left ≤ 1048576) : Calls Try.prog 18 #[.slice A L.length c, .int .i64 left] w fun e w' => e = .returned (.int .i64 (szV2 L.length (shr L) left)) ∧ Below w.heap.size w w' := by
  have HR := Lib.hid hr
  clear hr
  by_cases hlen : left < (L.length : Int)
  · have HV := Lib.hid (show szV2 L.length (shr L) left = -1 from if_neg (by omega))
    go_enter Try.func18, Try.ntmps18
    go_wp2
    go_ret
    exact ⟨ret_intG HV.out.symm, Below.refl _ _⟩
  · go_enter Try.func18, Try.ntmps18
    go_wp2
    go_loopw [1, 5] (fun lv i wr => ∃ k : Nat, k ≤ L.length ∧ i = .int .i64 k ∧ lv = .int .i64 (left - L.length - totTo (shr L) k) ∧ (L.length : Int) + totTo (shr L) k ≤ left ∧ Below w.heap.size w wr) (fun _ i _ => L.length - (intOf i).toNat)
    case atStart => exact ⟨0, by omega, rfl, by simp [totTo], by simp [totTo]; omega, Below.refl _ _⟩
    case round =>
      obtain ⟨k, hk, rfl, rfl, hle, hb⟩ := hrel
      by_cases hlt : k < L.length
      · obtain ⟨h, hh⟩ := some_of_lt hlt
        obtain ⟨b, off, rfl, c1, c2, c3, c4⟩ := (hm.below hb).sheet hh
        have HTS := Lib.hid (totTo_succ (shr_at hh))
        have HTR := Lib.hid (tot_row (shr_at hh))
        have hll := HR.out k h hh
        clear hh
        by_cases hc : (h.h.L.length : Int) ≤ left - L.length - totTo (shr L) k
        · go_wp2_with fail
          refine (szSheet_yes _ _ _ _ _ _ _ hc (by omega) (by omega)).mono ?_
          rintro e w' ⟨rfl, hq⟩
          go_wp2
          go_roundw
          case rel => exact ⟨k + 1, by omega, by go_num, by rw [HTS.out]; go_num, by rw [HTS.out]; omega, Below.next hq hb hb.size⟩
          case measure => simp [intOf]; omega
        · go_wp2_with fail
          refine (szSheet_no _ _ _ _ _ _ _ (by omega) hll (by omega) (by omega)).mono ?_
          rintro e w' ⟨rfl, hq⟩
          go_wp2
          go_ret
          exact ⟨ret_intG (show (-1 : Int) = szV2 L.length (shr L) left from (if_neg (by have := HTR.out; omega)).symm), Below.next hq hb hb.size⟩
      · have e1 : k = L.length := by omega
        subst e1
        have HV := Lib.hid (show left - (L.length : Int) - (totTo (shr L) L.length : Int) = szV2 L.length (shr L) left by
          have e : tot (shr L) = totTo (shr L) L.length := by rw [tot, shr_len]
          rw [szV2, e, if_pos (by omega)])
        go_wp2
        go_ret
        exact ⟨ret_intG HV.out, hb⟩

theorem info_sheet : (Try.prog.info? 29).map (fun i => (i.zero, i.size, i.bytes)) = some (some (.agg #[.int .i64 0, .int .i64 0, .int .i64 0, .slice none 0 0]), 4, 48) := by kernel_rfl
def hzs : Shd := ⟨0, ⟨0, 0⟩, ⟨none, 0, []⟩⟩
theorem hzs_made (n : Nat) : (madeCells #[.int .i64 0, .int .i64 0, .int .i64 0, .slice none 0 0] (n * 4)).toList = shs (List.replicate n hzs) := made_flat (fun a : Shd => [Value.int .i64 a.p, Value.int .i64 a.s.x, Value.int .i64 a.s.y, Value.slice a.h.A a.h.L.length a.h.c]) 4 hzs (by omega) (fun _ => rfl) n
def hvr (h : Hdr Rw) : Value := .slice h.A h.L.length h.c
/-- Sheets' rows made one behind the other, in blocks from B on. -/
structure SRows (w : World) (B : Nat) (gs : List Shd) : Prop where
  row : ∀ (j : Nat) (a : Shd), gs[j]? = some a → w.ownsRow B 83 3 (.slice a.h.A a.h.L.length a.h.c) a.h.L.length (rows a.h.L)
  up : ∀ (i j : Nat) (a a' : Shd), i < j → gs[i]? = some a → gs[j]? = some a' → ∀ b b', (hvr a.h).ownBlock = some b → (hvr a'.h).ownBlock = some b' → b < b'
theorem SRows.same {w w' : World} {B : Nat} {gs : List Shd} (h : SRows w B gs) (hs : ∀ b, B ≤ b → b < w.heap.size → w'.heap[b]? = w.heap[b]?) : SRows w' B gs :=
  ⟨fun j x hx => own_same (h.row j x hx) (fun g hg => hs g ((h.row j x hx).lt g hg).1 ((h.row j x hx).lt g hg).2), h.up⟩
theorem SRows.nil (w : World) (B : Nat) : SRows w B [] := ⟨fun j h e => by simp at e, fun i j h h' _ e => by simp at e⟩
theorem SRows.snoc {w w' : World} {B : Nat} {gs : List Shd} {x : Shd} (h : SRows w B gs) (hb : Below w.heap.size w w') (hx : w'.ownsRow w.heap.size 83 3 (.slice x.h.A x.h.L.length x.h.c) x.h.L.length (rows x.h.L)) (hB : B ≤ w.heap.size) : SRows w' B (gs ++ [x]) := by
  refine ⟨fun j y hy => ?_, fun i j y y' hij hi hj b b' h1 h2 => ?_⟩
  · rcases get_snoc hy with hy | ⟨_, rfl⟩
    · exact own_below (h.row j y hy) hb
    · exact own_base hx hB
  · have hjl := (List.getElem?_eq_some_iff.1 hj).1
    rw [List.length_append, List.length_singleton] at hjl
    have hi' : gs[i]? = some y := by rw [List.getElem?_append_left (by omega)] at hi; exact hi
    rcases get_snoc hj with hj | ⟨_, rfl⟩
    · exact h.up i j y y' hij hi' hj b b' h1 h2
    · have g1 := ((h.row i y hi').lt b h1).2
      have g2 := (hx.lt b' h2).1
      omega
/-- n sheets that calls have made in the blocks lo .. hi, all apart. -/
structure SOwn (w : World) (lo hi : Nat) (A : Option Addr) (c n : Nat) (L : List Shd) : Prop where
  len : L.length = n
  own : w.ownsRow lo 29 4 (.slice A n c) n (shs L)
  top : ∀ b, (Value.slice A n c).ownBlock = some b → b < hi
  row : ∀ (k : Nat) (a : Shd), L[k]? = some a → w.ownsRow lo 83 3 (.slice a.h.A a.h.L.length a.h.c) a.h.L.length (rows a.h.L) ∧ ∀ b, (hvr a.h).ownBlock = some b → b < hi ∧ (Value.slice A n c).ownBlock ≠ some b
  apart : ∀ (i j : Nat) (a a' : Shd), i ≠ j → L[i]? = some a → L[j]? = some a' → ∀ b, (hvr a.h).ownBlock = some b → (hvr a'.h).ownBlock ≠ some b
  sz : hi ≤ w.heap.size
theorem SOwn.same {w w' : World} {lo hi : Nat} {A : Option Addr} {c n : Nat} {L : List Shd} (h : SOwn w lo hi A c n L) (hz : w.heap.size ≤ w'.heap.size) (hb : ∀ b, lo ≤ b → b < hi → w'.heap[b]? = w.heap[b]?) : SOwn w' lo hi A c n L :=
  ⟨h.len, own_same h.own (fun g hg => hb g (h.own.lt g hg).1 (h.top g hg)), h.top, fun k x hx => ⟨own_same (h.row k x hx).1 (fun g hg => hb g ((h.row k x hx).1.lt g hg).1 ((h.row k x hx).2 g hg).1), (h.row k x hx).2⟩, h.apart, Nat.le_trans h.sz hz⟩
theorem SOwn.below {w w' : World} {lo hi : Nat} {A : Option Addr} {c n : Nat} {L : List Shd} (h : SOwn w lo hi A c n L) (hb : Below w.heap.size w w') : SOwn w' lo hi A c n L :=
  h.same hb.size (fun b _ hbh => hb.block b (by have := h.sz; omega))
theorem SOwn.grid {w : World} {lo hi : Nat} {A : Option Addr} {c n : Nat} {L : List Shd} (h : SOwn w lo hi A c n L) : SGrid w A L :=
  ⟨Mem.of_own h.own, fun k x hx => Mem.of_own (h.row k x hx).1⟩
theorem SOwn.cap {w : World} {lo hi : Nat} {A : Option Addr} {c n : Nat} {L : List Shd} (h : SOwn w lo hi A c n L) (k : Nat) (x : Shd) (hx : L[k]? = some x) : x.h.L.length ≤ x.h.c := own_capG (h.row k x hx).1
theorem SRows.sown {w : World} {g : Nat} {c n : Nat} {gs : List Shd} (h : SRows w (g + 1) gs) (hl : gs.length = n) (ho : w.ownsRow g 29 4 (.slice (some ⟨g, 0, none⟩) n c) n (shs gs)) : SOwn w g w.heap.size (some ⟨g, 0, none⟩) c n gs := by
  refine ⟨hl, ho, fun b hb => (ho.lt b hb).2, fun k x hx => ⟨own_base (h.row k x hx) (by omega), fun b hb => ⟨((h.row k x hx).lt b hb).2, ?_⟩⟩, fun i j x y hij hi hj b hb hb2 => ?_, Nat.le_refl _⟩
  · have g1 := ((h.row k x hx).lt b hb).1
    intro e
    have e2 : g = b := Option.some.inj e
    omega
  · rcases Nat.lt_or_gt_of_ne hij with h1 | h1
    · have := h.up i j x y h1 hi hj b b hb hb2; omega
    · have := h.up j i y x h1 hj hi b b hb2 hb; omega
set_option maxRecDepth 100000 in
set_option maxHeartbeats 1600000 in
theorem toSheetS_any (A : Option Addr) (c : Nat) (L : List Shd) (w : World) (hm : SGrid w A L) (hl : L.length ≤ 1048576) (hr : ∀ (k : Nat) (a : Shd), L[k]? = some a → a.h.L.length ≤ 1048576) : Calls Try.prog 20 #[.slice A L.length c] w fun e w' =>
    ∃ A' c' L', e = .returned (.slice A' L.length c') ∧ shv L' = shv L ∧ SOwn w' w.heap.size w'.heap.size A' c' L.length L' ∧ Below w.heap.size w w' := by
  obtain ⟨i0, hi, hz0, hz1, hz2⟩ := info_parts info_sheet
  have HR := Lib.hid hr
  clear hr
  go_enter Try.func20, Try.ntmps20
  go_wp2_with (at_make; refine wpList_make_full _ rfl _ _ 46 rfl w.heap.size 29 i0 (.agg #[.int .i64 0, .int .i64 0, .int .i64 0, .slice none 0 0]) 4 Try.underlying46 hi hz0 hz1 _ _ _ _ L.length rfl rfl rfl rfl ?b2 ?b3 (Nat.le_refl _) ?_)
  case b2 => rw [hz2]; omega
  case b3 => unfold maxLen; omega
  intro w0 hown0 hgrow0
  have hb0 := grown_below hgrow0
  have e0 : Hid ((madeCells #[.int .i64 0, .int .i64 0, .int .i64 0, .slice none 0 0] (L.length * 4)).toList = shs (([] : List Shd) ++ List.replicate (L.length - 0) hzs)) := Lib.hid (by rw [hzs_made]; rfl)
  have hz9 : w.heap.size < w0.heap.size := (hown0.lt _ rfl).2
  go_wp2
  go_loopw [4] (fun i wr => ∃ (k : Nat) (gs : List Shd), k ≤ L.length ∧ i = .int .i64 k ∧ Hid (gs.length = k) ∧ Hid (shv gs = (shv L).take k) ∧ wr.ownsRow w.heap.size 29 4 (.slice (some ⟨w.heap.size, 0, none⟩) L.length L.length) L.length (shs (gs ++ List.replicate (L.length - k) hzs)) ∧ SRows wr (w.heap.size + 1) gs ∧ Below w.heap.size w wr ∧ w.heap.size < wr.heap.size) (fun i _ => L.length - (intOf i).toNat)
  case atStart => exact ⟨0, [], by omega, rfl, Lib.hid rfl, Lib.hid rfl, e0.out ▸ hown0, SRows.nil _ _, hb0, hz9⟩
  case round =>
    obtain ⟨k, gs, hk, rfl, HL, HT, hown, hup, hb, hsz⟩ := hrel
    by_cases hlt : k < L.length
    · obtain ⟨a, hh⟩ := some_of_lt hlt
      obtain ⟨b, off, rfl, c1, c2, c3, c4⟩ := ((hm.below hb).mem).sheet hh
      have HM := Lib.hid ((hm.below hb).row k a hh)
      have HHL := Lib.hid (shv_at hh)
      have hll := HR.out k a hh
      have hpl : (shs (gs ++ List.replicate (L.length - k) hzs)).length = L.length * 4 := by rw [shs_len, List.length_append, List.length_replicate, HL.out]; omega
      obtain ⟨old0, hold0⟩ := some_of_lt (L := shs (gs ++ List.replicate (L.length - k) hzs)) (k := k * 4) (by omega)
      obtain ⟨old1, hold1⟩ := some_of_lt (L := shs (gs ++ List.replicate (L.length - k) hzs)) (k := k * 4 + 1) (by omega)
      obtain ⟨old2, hold2⟩ := some_of_lt (L := shs (gs ++ List.replicate (L.length - k) hzs)) (k := k * 4 + 2) (by omega)
      obtain ⟨old3, hold3⟩ := some_of_lt (L := shs (gs ++ List.replicate (L.length - k) hzs)) (k := k * 4 + 3) (by omega)
      have HOLD := Lib.hid (And.intro hold0 (And.intro hold1 (And.intro hold2 hold3)))
      have HO := Lib.hid hown
      have HU := Lib.hid hup
      clear hh hown hup hpl hold0 hold1 hold2 hold3
      go_wp2_with fail
      refine (toSheet_any a.p a.s _ _ a.h.L _ HM.out hll).mono ?_
      rintro e w1 ⟨A', c', rfl, ho1, hq⟩
      have HU1 := Lib.hid (HU.out.snoc (x := ⟨a.p, a.s, ⟨A', c', a.h.L⟩⟩) hq ho1 (by omega))
      have ho := own_below HO.out hq
      have hc0 := (ho.cellAt (k * 4) (by omega)).trans HOLD.out.1
      have hf0 := ho.frozenAt (k * 4)
      have hc1 := (ho.cellAt (k * 4 + 1) (by omega)).trans HOLD.out.2.1
      have hf1 := ho.frozenAt (k * 4 + 1)
      have hc2 := (ho.cellAt (k * 4 + 2) (by omega)).trans HOLD.out.2.2.1
      have hf2 := ho.frozenAt (k * 4 + 2)
      have hc3 := (ho.cellAt (k * 4 + 3) (by omega)).trans HOLD.out.2.2.2
      have hf3 := ho.frozenAt (k * 4 + 3)
      have st0 := (ho.stored (k * 4) (.int .i64 a.p)).1
      have st1 := (st0.stored (k * 4 + 1) (.int .i64 a.s.x)).1
      have st2 := (st1.stored (k * 4 + 2) (.int .i64 a.s.y)).1
      have st3 := (st2.stored (k * 4 + 3) (.slice A' a.h.L.length c')).1
      rw [← shs_set _ k ⟨a.p, a.s, ⟨A', c', a.h.L⟩⟩, rep_set gs hzs ⟨a.p, a.s, ⟨A', c', a.h.L⟩⟩ L.length k HL.out hlt] at st3
      have HST := Lib.hid st3
      have HQ := Lib.hid hq
      have hsz1 := hq.size
      clear ho1 ho st0 st1 st2 st3 hq
      go_wp2
      go_roundw
      case rel =>
        refine ⟨k + 1, gs ++ [⟨a.p, a.s, ⟨A', c', a.h.L⟩⟩], by omega, by go_num, Lib.hid (by rw [List.length_append, HL.out]; rfl), Lib.hid ?_, (by first | (with_reducible exact HST.out) | (have h := HST.out; simp only [Nat.add_assoc, Nat.reduceAdd] at h ⊢; exact h)), HU1.out.same ?_, ((((hb.trans (HQ.out.mono hb.size)).setCell (Nat.le_refl _) _).setCell (Nat.le_refl _) _).setCell (Nat.le_refl _) _).setCell (Nat.le_refl _) _, by simp; omega⟩
        · rw [List.take_add_one, HHL.out, shv, List.map_append]
          have := HT.out
          rw [shv] at this
          rw [this]; rfl
        · intro b hb1 _
          have hne : b ≠ w.heap.size := by omega
          rw [heap_setCell_other _ _ _ _ hne, heap_setCell_other _ _ _ _ hne, heap_setCell_other _ _ _ _ hne, heap_setCell_other _ _ _ _ hne]
      case measure => simp [intOf]; omega
    · have e1 : k = L.length := by omega
      subst e1
      rw [Nat.sub_self, List.replicate_zero, List.append_nil] at hown
      have HG := Lib.hid (hup.sown HL.out hown)
      have HT2 := Lib.hid (HT.out.trans (List.take_of_length_le (by rw [shv_len]; omega)))
      clear hup hown
      go_wp2
      go_ret
      exact ⟨_, _, gs, rfl, HT2.out, HG.out, hb⟩

theorem shv_inj {L M : List Shd} (h : shv L = shv M) {k : Nat} {a b : Shd} (ha : L[k]? = some a) (hb : M[k]? = some b) : a.p = b.p ∧ a.s = b.s ∧ a.h.L = b.h.L := by
  have e1 := shv_at ha
  rw [h, shv_at hb] at e1
  simp only [Option.some.injEq, Prod.mk.injEq] at e1
  exact ⟨e1.1.symm, e1.2.1.symm, e1.2.2.symm⟩
set_option maxRecDepth 100000 in
set_option maxHeartbeats 3200000 in
theorem eqSheetS_same (A B : Option Addr) (c d n : Nat) (L M : List Shd) (w : World) (ha : SGrid w A L) (hb : SGrid w B M) (h1 : L.length = n) (he : shv M = shv L) (hl : n ≤ 1048576) (hr : ∀ (k : Nat) (a : Shd), L[k]? = some a → a.h.L.length ≤ 1048576) : Calls Try.prog 22 #[.slice A n c, .slice B n d] w fun e w' => e = .returned (.bool true) ∧ Below w.heap.size w w' := by
  have HA := Lib.hid ha
  have HB := Lib.hid hb
  have HE := Lib.hid he
  have H1 := Lib.hid h1
  have H2 := Lib.hid (show M.length = n by rw [← shv_len, he, shv_len, h1])
  have HR := Lib.hid hr
  have hL : ((n : Int) != n) = false := by simp
  clear ha hb he h1 hr
  go_enter Try.func22, Try.ntmps22
  go_wp2
  go_loopw [5] (fun i wr => ∃ k : Nat, k ≤ n ∧ i = .int .i64 k ∧ Below w.heap.size w wr) (fun i _ => n - (intOf i).toNat)
  case atStart => exact ⟨0, by omega, rfl, Below.refl _ _⟩
  case round =>
    obtain ⟨k, hk, rfl, hbw⟩ := hrel
    by_cases hlt : k < n
    · obtain ⟨x, hx⟩ := some_of_lt (L := L) (k := k) (by rw [H1.out]; exact hlt)
      obtain ⟨y, hy⟩ := some_of_lt (L := M) (k := k) (by rw [H2.out]; exact hlt)
      obtain ⟨e1, e2, e3⟩ := shv_inj HE.out hy hx
      obtain ⟨a1, o1, rfl, c1, c2, c3, c4⟩ := (HA.out.below hbw).mem.sheet hx
      obtain ⟨a2, o2, rfl, d1, d2, d3, d4⟩ := (HB.out.below hbw).mem.sheet hy
      have q1 := (HA.out.below hbw).row k x hx
      have q2 := (HB.out.below hbw).row k y hy
      have hxl := HR.out k x hx
      rw [e1] at d1
      rw [e2] at d2 d3
      rw [e3] at d4 q2
      have k1 := cell_regrown (w := wr) c1
      have k2 := cell_regrown (w := wr) c2
      have k3 := cell_regrown (w := wr) c3
      have k4 := cell_regrown (w := wr) c4
      have k5 := cell_regrown (w := wr) d1
      have k6 := cell_regrown (w := wr) d2
      have k7 := cell_regrown (w := wr) d3
      have k8 := cell_regrown (w := wr) d4
      have C1 := Lib.hid (show ∀ dd os, Calls Try.prog 11 #[.agg #[.int .i64 x.p, .int .i64 x.s.x, .int .i64 x.s.y, .slice x.h.A x.h.L.length x.h.c], .agg #[.int .i64 x.p, .int .i64 x.s.x, .int .i64 x.s.y, .slice y.h.A x.h.L.length y.h.c]] (grow (redrawn wr dd) os) (fun e w'' => e = .returned (.bool true) ∧ ∃ p : Regrown, w'' = grow (redrawn wr p.d) p.os) from fun dd os => Calls.regrown_of ((eqSheet_any x.p x.p x.s x.s x.h.A y.h.A x.h.c y.h.c x.h.L x.h.L _ (q1.below (below_regrown wr dd os)) (q2.below (below_regrown wr dd os)) hxl hxl).mono (by rintro e w' ⟨he, hb⟩; rw [shEq_same] at he; exact ⟨he, hb⟩)))
      clear q1 q2 hx hy e1 e2 e3 c1 c2 c3 c4 d1 d2 d3 d4
      go_wp2
      refine wp_region_quiet_below (by kernel_rfl) (by kernel_rfl) ?_
      repeat (first | go_big_quiet_step (first | with_reducible exact C1.out _ _) | quiet_step (first | with_reducible exact C1.out _ _))
      refine wpQuiet_nil ?_
      intro _ hw'
      obtain ⟨⟨dq, osq⟩, hw''⟩ := hw'
      subst hw''
      have hb5 := below_regrown (wr) dq osq
      clear k1 k2 k3 k4 k5 k6 k7 k8
      generalize hW2 : grow (redrawn wr dq) osq = W2 at *
      clear hW2
      go_wp2
      go_roundw
      case rel => exact ⟨k + 1, by omega, by go_num, Below.next hb5 hbw hbw.size⟩
      case measure => simp [intOf]; omega
    · go_wp2
      go_ret
      exact ⟨rfl, hbw⟩

set_option maxRecDepth 100000 in
set_option maxHeartbeats 3200000 in
theorem markSheetS_any (lo hi : Nat) (A : Option Addr) (c n : Nat) (L : List Shd) (k0 : Int) (w : World) (ha : SOwn w lo hi A c n L) (hl : n ≤ 1048576) (ht : tot (shr L) ≤ 1048576) (h0 : 0 ≤ k0) (h1 : k0 ≤ 100000000) : Calls Try.prog 23 #[.slice A n c, .int .i64 k0] w fun e w' =>
    e = .returned (.int .i64 (k0 + 3 * (n : Int) + 3 * (tot (shr L) : Int))) ∧ Below lo w w' ∧ (∀ b, hi ≤ b → b < w.heap.size → w'.heap[b]? = w.heap[b]?) := by
  have HA := Lib.hid ha
  have HLN := Lib.hid ha.len
  have HTN := Lib.hid (show tot (shr L) = totTo (shr L) n by rw [tot, shr_len, ha.len])
  clear ha
  go_enter Try.func23, Try.ntmps23
  go_wp2
  go_loopw [1, 5] (fun kk i wr => ∃ k : Nat, ∃ M : List Shd, ∃ kv : Int, k ≤ n ∧ i = .int .i64 k ∧ kk = .int .i64 kv ∧ 0 ≤ kv ∧ kv ≤ 200000000 ∧ Hid (kv = k0 + 3 * (k : Int) + 3 * (totTo (shr L) k : Int)) ∧ wr.ownsRow lo 29 4 (.slice A n c) n (shs M) ∧ Hid (∀ (j : Nat) (a : Shd), k ≤ j → L[j]? = some a → (∃ a', M[j]? = some a' ∧ a'.h = a.h) ∧ wr.ownsRow lo 83 3 (.slice a.h.A a.h.L.length a.h.c) a.h.L.length (rows a.h.L)) ∧ Hid (M.length = n) ∧ Below lo w wr ∧ Hid (∀ b, hi ≤ b → b < w.heap.size → wr.heap[b]? = w.heap[b]?)) (fun _ i _ => n - (intOf i).toNat)
  case atStart => exact ⟨0, L, k0, by omega, rfl, rfl, h0, by omega, Lib.hid (by simp [totTo]), HA.out.own, Lib.hid (fun j a _ e => ⟨⟨a, e, rfl⟩, (HA.out.row j a e).1⟩), HLN, Below.refl _ _, Lib.hid (fun _ _ _ => rfl)⟩
  case round =>
    obtain ⟨k, M, kv, hk, rfl, rfl, hk0, hk1, HKV, hown, HRW, HML, hbw, HH⟩ := hrel
    by_cases hlt : k < n
    · obtain ⟨x, hx⟩ := some_of_lt (L := L) (k := k) (by rw [HLN.out]; exact hlt)
      obtain ⟨⟨y, hy, hyx⟩, hrow⟩ := HRW.out k x (Nat.le_refl _) hx
      have HX := Lib.hid hx
      have hxr := HA.out.row k x hx
      have HTS := Lib.hid (totTo_succ (shr_at hx))
      have HTR := Lib.hid (tot_row (shr_at hx))
      have hxl : x.h.L.length ≤ 1048576 := by have := HTR.out; omega
      obtain ⟨g, rfl, hg1, hg2⟩ := own_addr hown (by omega)
      have hgH := HA.out.top g rfl
      obtain ⟨b0, p0, e0, m0, m1, m2, m3⟩ := (Mem.of_own hown).sheet hy
      simp only [Option.some.injEq, Addr.mk.injEq, and_true] at e0
      obtain ⟨rfl, rfl⟩ := e0
      rw [hyx] at m3
      simp only [Nat.zero_add] at m0 m1 m2 m3
      have f0 := hown.frozenAt (k * 4)
      have f1 := hown.frozenAt (k * 4 + 1)
      have f2 := hown.frozenAt (k * 4 + 2)
      have st0 := (hown.stored (k * 4) (.int .i64 kv)).1
      have st1 := (st0.stored (k * 4 + 1) (.int .i64 (kv + 1))).1
      have st2 := (st1.stored (k * 4 + 1 + 1) (.int .i64 (kv + 1 + 1))).1
      rw [← shs_set3 hy] at st2
      have hrne : (Value.slice x.h.A x.h.L.length x.h.c).ownBlock ≠ some g := fun e => (hxr.2 g e).2 rfl
      have HROW := Lib.hid (show (((wr.setCell ⟨g, k * 4, none⟩ (.int .i64 kv)).setCell ⟨g, k * 4 + 1, none⟩ (.int .i64 (kv + 1))).setCell ⟨g, k * 4 + 1 + 1, none⟩ (.int .i64 (kv + 1 + 1))).ownsRow lo 83 3 (.slice x.h.A x.h.L.length x.h.c) x.h.L.length (rows x.h.L) from ownsRow_setCell_other (a := ⟨g, k * 4 + 1 + 1, none⟩) (ownsRow_setCell_other (a := ⟨g, k * 4 + 1, none⟩) (ownsRow_setCell_other (a := ⟨g, k * 4, none⟩) hrow hrne _) hrne _) hrne _)
      have HST := Lib.hid st2
      have HXR := Lib.hid hxr
      have HML2 := Lib.hid (show (M.set k ⟨kv, ⟨kv + 1, kv + 1 + 1⟩, y.h⟩).length = n by rw [List.length_set, HML.out])
      have HWS := Lib.hid (show ∀ b, b ≠ g → (((wr.setCell ⟨g, k * 4, none⟩ (.int .i64 kv)).setCell ⟨g, k * 4 + 1, none⟩ (.int .i64 (kv + 1))).setCell ⟨g, k * 4 + 1 + 1, none⟩ (.int .i64 (kv + 1 + 1))).heap[b]? = wr.heap[b]? from fun b hb => by rw [heap_setCell_other _ _ _ _ hb, heap_setCell_other _ _ _ _ hb, heap_setCell_other _ _ _ _ hb])
      have HWL := Lib.hid (show Below lo w (((wr.setCell ⟨g, k * 4, none⟩ (.int .i64 kv)).setCell ⟨g, k * 4 + 1, none⟩ (.int .i64 (kv + 1))).setCell ⟨g, k * 4 + 1 + 1, none⟩ (.int .i64 (kv + 1 + 1))) from ((hbw.setCell hg1 _).setCell hg1 _).setCell hg1 _)
      have HWZ := Lib.hid (show (((wr.setCell ⟨g, k * 4, none⟩ (.int .i64 kv)).setCell ⟨g, k * 4 + 1, none⟩ (.int .i64 (kv + 1))).setCell ⟨g, k * 4 + 1 + 1, none⟩ (.int .i64 (kv + 1 + 1))).heap.size = wr.heap.size by simp)
      clear hx hy hyx hrow hown hxr st0 st1 st2 hbw hrne
      go_wp2_with fail
      refine (markRowS_any lo x.h.A x.h.c x.h.L _ _ HROW.out hxl (by omega) (by omega)).mono ?_
      rintro e w2 ⟨rfl, hq2, hg2'⟩
      have HG2 := Lib.hid hg2'
      clear hq2 hg2' m0 m1 m2 m3 f0 f1 f2
      go_wp2_with fail
      go_roundw
      case rel =>
        have hwz := HWZ.out
        have hgr := HG2.out.size
        refine ⟨k + 1, M.set k ⟨kv, ⟨kv + 1, kv + 1 + 1⟩, y.h⟩, kv + 1 + 1 + 1 + 3 * (x.h.L.length : Int), by omega, by go_num, by first | rfl | go_num, by omega, ?_, Lib.hid ?_, own_kept HST.out HG2.out (fun r hr j hj e => (HXR.out.2 r hr).2 (by rw [← e]; exact hj)), Lib.hid (fun j a hjk ha => ⟨?_, ?_⟩), HML2, below_grown HWL.out HG2.out (by rw [hwz]; omega) (fun r hr => (HXR.out.1.lt r hr).1), Lib.hid (fun b h2 h3 => ?_)⟩
        · have h5 := HKV.out; have h6 := HTR.out; omega
        · have h5 := HKV.out; have h6 := HTS.out; rw [h6]; push_cast; omega
        · obtain ⟨⟨a', h5, h6⟩, _⟩ := HRW.out j a (by omega) ha
          exact ⟨a', by rw [List.getElem?_set_ne (by omega)]; exact h5, h6⟩
        · obtain ⟨_, h6⟩ := HRW.out j a (by omega) ha
          have h7 : (Value.slice a.h.A a.h.L.length a.h.c).ownBlock ≠ some g := fun e => ((HA.out.row j a ha).2 g e).2 rfl
          have h8 : (((wr.setCell ⟨g, k * 4, none⟩ (.int .i64 kv)).setCell ⟨g, k * 4 + 1, none⟩ (.int .i64 (kv + 1))).setCell ⟨g, k * 4 + 1 + 1, none⟩ (.int .i64 (kv + 1 + 1))).ownsRow lo 83 3 (.slice a.h.A a.h.L.length a.h.c) a.h.L.length (rows a.h.L) := ownsRow_setCell_other (a := ⟨g, k * 4 + 1 + 1, none⟩) (ownsRow_setCell_other (a := ⟨g, k * 4 + 1, none⟩) (ownsRow_setCell_other (a := ⟨g, k * 4, none⟩) h6 h7 _) h7 _) h7 _
          exact own_kept h8 HG2.out (fun r hr i hi e => HA.out.apart k j x a (by omega) HX.out ha r hr (by rw [← e]; exact hi))
        · have h5 : b ≠ g := by omega
          have h6 : b < wr.heap.size := Nat.lt_of_lt_of_le h3 (by have := HWL.out.size; rw [hwz] at this; exact this)
          rw [HG2.out.block b (by rw [hwz]; exact h6) (fun e => by have := (HXR.out.2 b e.symm).1; omega), HWS.out b h5]
          exact HH.out b h2 h3
      case measure => simp [intOf]; omega
    · go_wp2
      go_ret
      have e3 : k = n := by omega
      subst e3
      exact ⟨ret_intG (by rw [HTN.out]; exact HKV.out), hbw, HH.out⟩
end Go.Proofs.Ytbgbcajcajaocaa
