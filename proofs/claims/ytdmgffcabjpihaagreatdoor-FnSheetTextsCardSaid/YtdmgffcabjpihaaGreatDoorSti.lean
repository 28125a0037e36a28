/-
  Texts of numbers, spots and sheets, as the program writes them.
-/
import Derived.Test.YtdmgffcabjpihaaGreatDoorStx
import Derived.Test.YtdmgffcabjpihaaGreatDoorLbc
import Derived.Test.YtdmgffcabjpihaaGreatDoorSht
namespace Go.Proofs.YtdmgffcabjpihaaGreatDoor
open Go.RowKit
open Go.Sort (grow)

/-- The library's table of powers of ten. -/
def Tab (w : World) : Prop := Lib.TabIs Tryz.prog w "internal/strconv.uint64pow10" .u64 Lib.pow10Tab
theorem var_below {B g : Nat} {W W' : World} {n : String} {cs : Array Value} (h : Below B W W') (hg : Tryz.prog.globalNamed n = some g) (hgB : g < B) (hv : W.var? Tryz.prog n = some cs) : W'.var? Tryz.prog n = some cs := by
  unfold World.var? at hv ⊢
  simp only [hg, Option.bind_some] at hv ⊢
  rw [h.block g hgB]
  exact hv
theorem pow_global : Tryz.prog.globalNamed "internal/strconv.uint64pow10" = some 1 := by kernel_rfl
theorem Tab.below {w w' : World} (h : Tab w) (hq : Below w.heap.size w w') : Tab w' := by
  refine var_below hq pow_global ?_ h
  have h1 := h
  unfold Tab Lib.TabIs World.var? at h1
  simp only [pow_global, Option.bind_some] at h1
  rcases Nat.lt_or_ge 1 w.heap.size with h2 | h2
  · exact h2
  · rw [Array.getElem?_eq_none h2] at h1
    simp at h1
theorem itoa_any (n : Int) (h0 : 0 ≤ n) (h1 : n < 1000000) (w : World) (ht : Tab w) : Calls Tryz.prog 55 #[.int .i64 n] w fun e w' => e = .returned (.string (bs (Lib.itoa n))) ∧ Below w.heap.size w w' := by
  refine (strconv_Itoa n (by omega) (by omega) w ht).mono ?_
  rintro e w' ⟨rfl, k, os, rfl⟩
  exact ⟨rfl, ⟨rfl, rfl, rfl, by simp [grow, World.drewN], fun j hj => by simp only [grow]; exact Array.getElem?_append_left hj⟩⟩
theorem bldF_below {T e : TypeId} {B b : Nat} {l : List Value} {w w' : World} (h : Lib.IsBuilderF T e B b l w) (hq : Below w.heap.size w w') : Lib.IsBuilderF T e B b l w' := by
  have hg : w.grownBy w' none := ⟨hq.os, hq.tape, hq.output, hq.size, fun k hk _ => hq.block k hk⟩
  have one : ∀ p, Lib.BuilderAtF T e B b p l w → Lib.BuilderAtF T e B b p l w' := by
    rintro p ⟨hB, v, hb, ho, hne⟩
    refine ⟨hB, v, (hq.block b (Array.getElem?_eq_some_iff.1 hb).1).trans hb, ho.kept hg ?_, hne⟩
    cases hv : v.ownBlock with
    | none => exact .inl rfl
    | some k => exact .inr (by simp)
  exact h.imp (one _) (one _)
/-- A builder of the call's own, the bytes l in it. -/
def Bld (b : Nat) (l : List UInt8) (w : World) : Prop := Lib.IsBuilderF 84 5 b b (Lib.byteCells l) w
theorem Bld.below {b : Nat} {l : List UInt8} {w w' : World} (h : Bld b l w) (hq : Below w.heap.size w w') : Bld b l w' := bldF_below h hq
theorem Bld.le {b : Nat} {l : List UInt8} {w : World} (h : Bld b l w) : b < w.heap.size := by
  rcases h with h | h <;> exact h.lt
theorem Bld.new (w : World) : Bld w.heap.size [] (w.alloc (.cells #[.pointer none, .slice none 0 0] 84)) := Lib.IsBuilderF.of (Lib.fresh_isBuilder _ _ w)
theorem write_any (b : Nat) (l m : List UInt8) (s : ByteArray) (hs : s = bs m) (hl : l.length ≤ 1000000) (hm : m.length ≤ 1000000) (w : World) (h : Bld b l w) : Calls Tryz.prog 54 #[.pointer (some ⟨b, 0, none⟩), .string s] w fun e w' =>
    e = .returned (.tuple #[.int .i64 m.length, .nilIface]) ∧ Bld b (l ++ m) w' ∧ Below b w w' := by
  subst hs
  refine (Builder_WriteString_f b b (Lib.byteCells l) (bs m) w h (by rw [bs_size]; simp [Lib.byteCells]; omega) (Nat.le_of_lt h.le)).mono ?_
  rintro e w' ⟨rfl, h1, h2⟩
  refine ⟨by rw [bs_size], ?_, h2⟩
  have e1 : Lib.byteCells l ++ Lib.strCells (bs m) = Lib.byteCells (l ++ m) := by simp [bs, Lib.strCells, Lib.byteCells]
  rw [e1] at h1
  exact .inr h1
theorem told_any (b : Nat) (l : List UInt8) (w : World) (h : Bld b l w) : Calls Tryz.prog 56 #[.pointer (some ⟨b, 0, none⟩)] w fun e w' =>
    e = .returned (.string (bs l)) ∧ Below b w w' := by
  refine (Builder_String_any_f b b l w h (Nat.le_of_lt h.le)).mono ?_
  rintro e w' ⟨rfl, h1, h2⟩
  exact ⟨rfl, h2⟩

set_option maxHeartbeats 1600000 in
set_option maxRecDepth 100000 in
theorem stepsText_any (n : Int) (h0 : 0 ≤ n) (h1 : n < 1000000) (w : World) (ht : Tab w) : Calls Tryz.prog 77 #[.int .i64 n] w fun e w' => e = .returned (.string (bs (ptT n))) ∧ Below w.heap.size w w' := by
  have hd : n.tdiv 8 = n / 8 := Int.tdiv_eq_ediv_of_nonneg h0
  have hm : n.tmod 8 = n % 8 := Int.tmod_eq_emod_of_nonneg h0
  have hw1 : IntKind.i64.wrap (n / 8) = n / 8 := IntWalk.i64_in _ (by omega)
  have C1 := Lib.hid (itoa_any (n / 8) (by omega) (by omega))
  have C2 := Lib.hid (itoa_any (n % 8) (by omega) (by omega))
  have z1 := itoa_len (n / 8) (by omega) (by omega)
  have z2 := itoa_len (n % 8) (by omega) (by omega)
  rw [← bs_size] at z1 z2
  have HT := Lib.hid ht
  clear ht
  by_cases h : n % 8 = 0
  · rw [ptT, if_pos h]
    go_enter Tryz.func77, Tryz.ntmps77
    go_wp2_with fail
    refine (C1.out _ HT.out).mono ?_
    rintro e w1 ⟨rfl, hq⟩
    go_wp2_with fail
    go_ret
    exact ⟨rfl, hq⟩
  · rw [ptT, if_neg h]
    have hb : 0 < n % 8 := by omega
    go_enter Tryz.func77, Tryz.ntmps77
    go_wp2_with fail
    refine (C1.out _ HT.out).mono ?_
    rintro e w1 ⟨rfl, hq⟩
    go_wp2_with fail
    refine (C2.out _ (HT.out.below hq)).mono ?_
    rintro e w2 ⟨rfl, hq2⟩
    go_wp2_with fail
    go_ret
    exact ⟨ret_str (by apply ByteArray.ext; simp [bs]), Below.next hq2 hq hq.size⟩

/-- A call in a region that draws its order, under a fact of the world that stays. -/
theorem hid_regrown_tab {f : FuncId} {args : Array Value} {v : Value} (h : ∀ w, Tab w → Calls Tryz.prog f args w fun e w' => e = .returned v ∧ Below w.heap.size w w') (w : World) (ht : Tab w) :
    ∀ dd os, Calls Tryz.prog f args (grow (redrawn w dd) os) (fun e w'' => e = .returned v ∧ ∃ p : Regrown, w'' = grow (redrawn w p.d) p.os) := fun dd os => Calls.regrown_of (h _ (ht.below (below_regrown w dd os)))

set_option maxHeartbeats 1600000 in
set_option maxRecDepth 100000 in
theorem SpotText_any (s : Sp) (h : isSp s = true) (w : World) (ht : Tab w) : Calls Tryz.prog 53 #[.agg #[.int .i64 s.x, .int .i64 s.y]] w fun e w' => e = .returned (.tuple #[.string (bs (spT s)), .bool true]) ∧ Below w.heap.size w w' := by
  have h1 := isSp_iff.1 h
  have D1 := Lib.hid (stepsText_any s.x (by omega) (by omega))
  have D2 := Lib.hid (stepsText_any s.y (by omega) (by omega))
  have z1 := ptT_len s.x (by omega) (by omega)
  have z2 := ptT_len s.y (by omega) (by omega)
  rw [← bs_size] at z1 z2
  have HT := Lib.hid ht
  have HH := Lib.hid h
  clear h h1 ht
  go_enter Tryz.func53, Tryz.ntmps53
  go_wp2_with fail
  refine (isSpot_any s _).mono ?_
  rintro e _ ⟨rfl, o, rfl⟩
  rw [HH.out]
  go_wp2_with fail
  have hb := (Blk.new w #[.int .i64 s.x, .int .i64 s.y] 25).alloc o
  have hq0 : Below w.heap.size w ((w.alloc (.cells #[.int .i64 s.x, .int .i64 s.y] 25)).alloc o) := ((Below.refl _ _).alloc (Nat.le_refl _) _).alloc (by simp) _
  have HQ := Lib.hid hq0
  have HT1 := Lib.hid (HT.out.below hq0)
  clear hq0 HT
  generalize (w.alloc (.cells #[.int .i64 s.x, .int .i64 s.y] 25)).alloc o = w1 at *
  generalize w.heap.size = g at hb ⊢
  have r0 : ∀ dd os, (grow (redrawn w1 dd) os).cell? ⟨g, 0, none⟩ = some (.int .i64 s.x) := cell_regrown (hb.cell 0)
  have r1 : ∀ dd os, (grow (redrawn w1 dd) os).cell? ⟨g, 1, none⟩ = some (.int .i64 s.y) := cell_regrown (hb.cell 1)
  have C1 := Lib.hid (hid_regrown_tab D1.out w1 HT1.out)
  have C2 := Lib.hid (hid_regrown_tab D2.out w1 HT1.out)
  clear hb
  refine wp_region_quiet_below (by kernel_rfl) (by kernel_rfl) ?_
  repeat (first | go_big_quiet_step (first | with_reducible exact C1.out _ _ | with_reducible exact C2.out _ _) | quiet_step (first | with_reducible exact C1.out _ _ | with_reducible exact C2.out _ _))
  refine wpQuiet_nil ?_
  intro _ hw'
  obtain ⟨⟨dq, osq⟩, hw''⟩ := hw'
  subst hw''
  have hq := below_regrown w1 dq osq
  clear C1 C2 r0 r1
  generalize grow (redrawn w1 dq) osq = w2 at *
  go_wp2
  go_ret2
  exact ⟨congrArg (fun x => Ending.returned (.tuple #[.string x, .bool true])) (by apply ByteArray.ext; simp [bs, spT]), Below.next hq HQ.out HQ.out.size⟩

theorem shT_take (p : Int) (s : Sp) (L : List Rw) {k : Nat} (h : L.length ≤ k) : hdT p s ++ (L.take k).flatMap rwT = shT p s L := by rw [List.take_of_length_le h]; rfl
theorem lt_len {p : Int} {s : Sp} {L : List Rw} (h : shOk p s L = true) (k : Nat) : (hdT p s ++ (L.take k).flatMap rwT).length ≤ 400 := by rw [← bs_size]; exact ac_len h k

set_option maxHeartbeats 3200000 in
set_option maxRecDepth 100000 in
theorem sheetText_any (p : Int) (s : Sp) (A : Option Addr) (c : Nat) (L : List Rw) (w : World) (hm : Mem w A (rows L)) (hok : shOk p s L = true) (ht : Tab w) : Calls Tryz.prog 27 #[.agg #[.int .i64 p, .int .i64 s.x, .int .i64 s.y, .slice A L.length c]] w fun e w' =>
    e = .returned (.string (bs (shT p s L))) ∧ Below w.heap.size w w' := by
  have h1 := shOk_iff.1 hok
  have hp := inR_iff.1 h1.1
  have D1 := Lib.hid (itoa_any p (by omega) (by omega))
  have D2 := Lib.hid (SpotText_any s h1.2.1)
  have z1 := itoa_len p (by omega) (by omega)
  have z2 := spT_len s h1.2.1
  rw [← bs_size] at z1 z2
  have HL := Lib.hid h1.2.2
  have HO := Lib.hid hok
  have HM := Lib.hid hm
  have HT := Lib.hid ht
  have HH := Lib.hid (hdT_len h1.1 h1.2.1)
  have hl : L.length ≤ 8 := h1.2.2.1
  clear h1 hp hok hm ht
  go_enter Tryz.func27, Tryz.ntmps27
  go_wp2_with fail
  have hb := (Blk.new w #[.int .i64 p, .int .i64 s.x, .int .i64 s.y, .slice A L.length c] 28).alloc (.cells #[.pointer none, .slice none 0 0] 84)
  have hn : Bld (w.heap.size + 1) [] ((w.alloc (.cells #[.int .i64 p, .int .i64 s.x, .int .i64 s.y, .slice A L.length c] 28)).alloc (.cells #[.pointer none, .slice none 0 0] 84)) := by
    have := Bld.new (w.alloc (.cells #[.int .i64 p, .int .i64 s.x, .int .i64 s.y, .slice A L.length c] 28))
    simpa using this
  have hq0 : Below w.heap.size w ((w.alloc (.cells #[.int .i64 p, .int .i64 s.x, .int .i64 s.y, .slice A L.length c] 28)).alloc (.cells #[.pointer none, .slice none 0 0] 84)) := ((Below.refl _ _).alloc (Nat.le_refl _) _).alloc (by simp) _
  have hgb : w.heap.size < w.heap.size + 1 := by omega
  have HG := Lib.hid (show w.heap.size ≤ w.heap.size + 1 by omega)
  have HB := Lib.hid hb
  have HN := Lib.hid hn
  have HQ := Lib.hid hq0
  have HT1 := Lib.hid (HT.out.below hq0)
  have HGB := Lib.hid hgb
  clear hq0 hn hb hgb
  generalize ((w.alloc (.cells #[.int .i64 p, .int .i64 s.x, .int .i64 s.y, .slice A L.length c] 28)).alloc (.cells #[.pointer none, .slice none 0 0] 84)) = w1 at *
  generalize w.heap.size + 1 = b at *
  generalize hgs : w.heap.size = g at HB HGB ⊢
  have HGS := Lib.hid hgs
  clear hgs
  refine (D2.out w1 HT1.out).mono ?_
  rintro e w2 ⟨rfl, hq⟩
  have HB2 := Lib.hid (HB.out.below hq HB.out.lt)
  have HN2 := Lib.hid (HN.out.below hq)
  have HT2 := Lib.hid (HT1.out.below hq)
  have HQ2 := Lib.hid (Below.next hq HQ.out HQ.out.size)
  have x0 := HB2.out.cell 0
  simp at x0
  clear HB HN HT1 HQ hq
  go_wp2_with fail
  refine (D1.out w2 HT2.out).mono ?_
  rintro e w3 ⟨rfl, hq⟩
  have HB3 := Lib.hid (HB2.out.below hq HB2.out.lt)
  have HN3 := Lib.hid (HN2.out.below hq)
  have HT3 := Lib.hid (HT2.out.below hq)
  have HQ3 := Lib.hid (Below.next hq HQ2.out HQ2.out.size)
  clear HB2 HN2 HT2 HQ2 hq x0
  go_wp2_with fail
  refine (write_any b [] (hdT p s) _ (by apply ByteArray.ext; simp [bs, hdT]) (by simp) (by have := HH.out; omega) w3 HN3.out).mono ?_
  rintro e w4 ⟨rfl, hn, hq⟩
  have HB4 := Lib.hid (HB3.out.below hq HGB.out)
  have HN4 := Lib.hid (show Bld b (hdT p s ++ (L.take 0).flatMap rwT) w4 by simpa using hn)
  have HQ4 := Lib.hid (show Below w.heap.size w w4 from HQ3.out.trans (hq.mono HG.out))
  have x2 := HB4.out.cell 3
  simp at x2
  clear HB3 HN3 HT3 HQ3 hq hn
  go_wp2_with fail
  clear x2
  go_loopw [7, 8, 9, 28] (fun _ _ _ i wr => ∃ k : Nat, k ≤ L.length ∧ i = .int .i64 k ∧ Hid (Bld b (hdT p s ++ (L.take k).flatMap rwT) wr) ∧ Hid (Below b w4 wr)) (fun _ _ _ i _ => L.length - (intOf i).toNat)
  case atStart => exact ⟨0, by omega, rfl, HN4, Lib.hid (Below.refl _ _)⟩
  case round =>
    obtain ⟨k, hk, rfl, HNk, HBk⟩ := hrel
    have HQk := Lib.hid (show Below w.heap.size w wr from HQ4.out.trans (HBk.out.mono HG.out))
    by_cases hlt : k < L.length
    · obtain ⟨r, hr⟩ := some_of_lt hlt
      obtain ⟨b2, off, rfl, x1, x2, x3⟩ := (HM.out.below HQk.out).row hr
      have hri := all_at HL.out.2 hr
      have hrc := isRw_iff.1 hri
      have E1 := Lib.hid (itoa_any r.c (by omega) (by omega))
      have E2 := Lib.hid (SpotText_any r.t hrc.2)
      have z3 := itoa_len r.c (by omega) (by omega)
      have z4 := spT_len r.t hrc.2
      have HZ := Lib.hid (And.intro (lt_len HO.out k) (rwT_len hri))
      rw [← bs_size] at z3 z4
      have HS := Lib.hid (show hdT p s ++ (L.take (k + 1)).flatMap rwT = (hdT p s ++ (L.take k).flatMap rwT) ++ rwT r by rw [rws_take hr, List.append_assoc])
      clear hri hrc hr
      go_wp2_with fail
      have hb := Blk.new wr #[.int .i64 r.c, .int .i64 r.t.x, .int .i64 r.t.y] 46
      have hq0 : Below wr.heap.size wr (wr.alloc (.cells #[.int .i64 r.c, .int .i64 r.t.x, .int .i64 r.t.y] 46)) := (Below.refl _ _).alloc (Nat.le_refl _) _
      have HN5 := Lib.hid (HNk.out.below hq0)
      have HB5 := Lib.hid (Below.next hq0 HBk.out (Nat.le_of_lt HNk.out.le))
      have HT5 := Lib.hid ((HT.out.below HQk.out).below hq0)
      clear hq0 HNk HBk HQk x1 x2 x3
      generalize wr.alloc (.cells #[.int .i64 r.c, .int .i64 r.t.x, .int .i64 r.t.y] 46) = w5 at *
      generalize wr.heap.size = g5 at hb ⊢
      have HR5 := Lib.hid hb
      clear hb
      refine (E2.out w5 HT5.out).mono ?_
      rintro e w6 ⟨rfl, hq⟩
      have HN6 := Lib.hid (HN5.out.below hq)
      have HB6 := Lib.hid (Below.next hq HB5.out (Nat.le_of_lt HN5.out.le))
      have HT6 := Lib.hid (HT5.out.below hq)
      have HR6 := Lib.hid (HR5.out.below hq HR5.out.lt)
      have y0 := HR6.out.cell 0
      simp at y0
      clear hq HN5 HB5 HT5 HR5
      go_wp2_with fail
      refine (E1.out w6 HT6.out).mono ?_
      rintro e w7 ⟨rfl, hq⟩
      have HN7 := Lib.hid (HN6.out.below hq)
      have HB7 := Lib.hid (Below.next hq HB6.out (Nat.le_of_lt HN6.out.le))
      clear hq HN6 HB6 HT6 HR6 y0
      go_wp2_with fail
      refine (write_any b (hdT p s ++ (L.take k).flatMap rwT) (rwT r) _ (by apply ByteArray.ext; simp [bs, rwT]) (by have := HZ.out.1; omega) (by have := HZ.out.2; omega) w7 HN7.out).mono ?_
      rintro e w8 ⟨rfl, hn, hq⟩
      have HN8 := Lib.hid hn
      have HB8 := Lib.hid (HB7.out.trans hq)
      clear hq hn HN7 HB7
      rw [← HS.out] at HN8
      go_wp2
      go_roundw
      case rel => exact ⟨k + 1, by omega, by go_num, HN8, HB8⟩
      case measure => simp [intOf]; omega
    · have HE := Lib.hid (shT_take p s L (k := k) (by omega))
      rw [HE.out] at HNk
      go_wp2_with fail
      refine (told_any b _ wr HNk.out).mono ?_
      rintro e w9 ⟨rfl, hq⟩
      have HB9 := Lib.hid (HQk.out.trans (hq.mono HG.out))
      clear hq
      go_wp2
      go_ret
      exact ⟨rfl, HB9.out⟩

/-- The text that is handed back, where there is one. -/
def txV (p : Int) (s : Sp) (L : List Rw) : List UInt8 := if shOk p s L then shT p s L else []
theorem ret_text {a b : List UInt8} {c d : Bool} (h : a = b) (h2 : c = d) : Ending.returned (.tuple #[.string (bs a), .bool c]) = .returned (.tuple #[.string (bs b), .bool d]) := by rw [h, h2]

set_option maxHeartbeats 1600000 in
set_option maxRecDepth 100000 in
theorem spec_SheetText_any (p : Int) (s : Sp) (A : Option Addr) (c : Nat) (L : List Rw) (w : World) (hm : Mem w A (rows L)) (hl : L.length ≤ 1048576) : Calls Tryz.prog 7 #[.agg #[.int .i64 p, .int .i64 s.x, .int .i64 s.y, .slice A L.length c]] w fun e w' =>
    e = .returned (.tuple #[.string (bs (txV p s L)), .bool (shOk p s L)]) ∧ Below w.heap.size w w' := by
  cases h1 : shOk p s L
  all_goals have H1 := Lib.hid h1
  · clear h1
    go_enter Tryz.func7, Tryz.ntmps7
    go_wp2_with (go_at_call 28; refine (shGood_any p s _ _ L _ (hm.below (by (repeat (first | exact Below.refl _ _ | assumption | (refine Below.alloc ?_ (by first | omega | (simp; done) | (simp; omega)) _) | (refine Below.setCell ?_ (by first | omega | (simp; done) | (simp; omega)) _) | (refine Below.drew ?_) | (refine Below.drewN ?_ _) | (refine Below.next (by assumption) ?_ (by first | omega | (simp; done) | (simp; omega))))))) hl).mono ?_; rintro e w' ⟨he, hq⟩; rw [H1.out] at he; subst he; obtain ⟨hz, hc, hf⟩ := bel hq; (try simp at hz); (try simp at hz); (try have gz1 : w.heap.size < w'.heap.size := by omega); (try have gz2 : w.heap.size + 1 < w'.heap.size := by omega); (try have gz3 : wr.heap.size < w'.heap.size := by omega))
    go_ret2
    exact ⟨ret_text (by simp [txV, H1.out]) rfl, by (repeat (first | exact Below.refl _ _ | assumption | (refine Below.alloc ?_ (by first | omega | (simp; done) | (simp; omega)) _) | (refine Below.setCell ?_ (by first | omega | (simp; done) | (simp; omega)) _) | (refine Below.drew ?_) | (refine Below.drewN ?_ _) | (refine Below.next (by assumption) ?_ (by first | omega | (simp; done) | (simp; omega)))))⟩
  · clear h1
    go_enter Tryz.func7, Tryz.ntmps7
    go_wp2_with (first
      | (go_at_call 28; refine (shGood_any p s _ _ L _ (hm.below (by (repeat (first | exact Below.refl _ _ | assumption | (refine Below.alloc ?_ (by first | omega | (simp; done) | (simp; omega)) _) | (refine Below.setCell ?_ (by first | omega | (simp; done) | (simp; omega)) _) | (refine Below.drew ?_) | (refine Below.drewN ?_ _) | (refine Below.next (by assumption) ?_ (by first | omega | (simp; done) | (simp; omega))))))) hl).mono ?_; rintro e w' ⟨he, hq⟩; rw [H1.out] at he; subst he; obtain ⟨hz, hc, hf⟩ := bel hq; (try simp at hz); (try simp at hz); (try have gz1 : w.heap.size < w'.heap.size := by omega); (try have gz2 : w.heap.size + 1 < w'.heap.size := by omega); (try have gz3 : wr.heap.size < w'.heap.size := by omega))
      | (go_at_call 29; refine (shText_any p s _ _ L _ (hm.below (by (repeat (first | exact Below.refl _ _ | assumption | (refine Below.alloc ?_ (by first | omega | (simp; done) | (simp; omega)) _) | (refine Below.setCell ?_ (by first | omega | (simp; done) | (simp; omega)) _) | (refine Below.drew ?_) | (refine Below.drewN ?_ _) | (refine Below.next (by assumption) ?_ (by first | omega | (simp; done) | (simp; omega))))))) H1.out).mono ?_; rintro e w2 ⟨rfl, hq2⟩))
    go_ret2
    exact ⟨ret_text (by simp [txV, H1.out]) rfl, by (repeat (first | exact Below.refl _ _ | assumption | (refine Below.alloc ?_ (by first | omega | (simp; done) | (simp; omega)) _) | (refine Below.setCell ?_ (by first | omega | (simp; done) | (simp; omega)) _) | (refine Below.drew ?_) | (refine Below.drewN ?_ _) | (refine Below.next (by assumption) ?_ (by first | omega | (simp; done) | (simp; omega)))))⟩
set_option maxHeartbeats 1600000 in
set_option maxRecDepth 100000 in
theorem impl_SheetText_any (p : Int) (s : Sp) (A : Option Addr) (c : Nat) (L : List Rw) (w : World) (hm : Mem w A (rows L)) (hl : L.length ≤ 1048576) (ht : Tab w) : Calls Tryz.prog 6 #[.agg #[.int .i64 p, .int .i64 s.x, .int .i64 s.y, .slice A L.length c]] w fun e w' =>
    e = .returned (.tuple #[.string (bs (txV p s L)), .bool (shOk p s L)]) ∧ Below w.heap.size w w' := by
  cases h1 : shOk p s L
  all_goals have H1 := Lib.hid h1
  · clear h1
    go_enter Tryz.func6, Tryz.ntmps6
    go_wp2_with (go_at_call 16; refine (IsSheet_any p s _ _ L _ (hm.below (by (repeat (first | exact Below.refl _ _ | assumption | (refine Below.alloc ?_ (by first | omega | (simp; done) | (simp; omega)) _) | (refine Below.setCell ?_ (by first | omega | (simp; done) | (simp; omega)) _) | (refine Below.drew ?_) | (refine Below.drewN ?_ _) | (refine Below.next (by assumption) ?_ (by first | omega | (simp; done) | (simp; omega))))))) hl).mono ?_; rintro e w' ⟨he, hq⟩; rw [H1.out] at he; subst he; obtain ⟨hz, hc, hf⟩ := bel hq; (try simp at hz); (try simp at hz); (try have gz1 : w.heap.size < w'.heap.size := by omega); (try have gz2 : w.heap.size + 1 < w'.heap.size := by omega); (try have gz3 : wr.heap.size < w'.heap.size := by omega))
    go_ret2
    exact ⟨ret_text (by simp [txV, H1.out]) rfl, by (repeat (first | exact Below.refl _ _ | assumption | (refine Below.alloc ?_ (by first | omega | (simp; done) | (simp; omega)) _) | (refine Below.setCell ?_ (by first | omega | (simp; done) | (simp; omega)) _) | (refine Below.drew ?_) | (refine Below.drewN ?_ _) | (refine Below.next (by assumption) ?_ (by first | omega | (simp; done) | (simp; omega)))))⟩
  · clear h1
    go_enter Tryz.func6, Tryz.ntmps6
    go_wp2_with (first
      | (go_at_call 16; refine (IsSheet_any p s _ _ L _ (hm.below (by (repeat (first | exact Below.refl _ _ | assumption | (refine Below.alloc ?_ (by first | omega | (simp; done) | (simp; omega)) _) | (refine Below.setCell ?_ (by first | omega | (simp; done) | (simp; omega)) _) | (refine Below.drew ?_) | (refine Below.drewN ?_ _) | (refine Below.next (by assumption) ?_ (by first | omega | (simp; done) | (simp; omega))))))) hl).mono ?_; rintro e w' ⟨he, hq⟩; rw [H1.out] at he; subst he; obtain ⟨hz, hc, hf⟩ := bel hq; (try simp at hz); (try simp at hz); (try have gz1 : w.heap.size < w'.heap.size := by omega); (try have gz2 : w.heap.size + 1 < w'.heap.size := by omega); (try have gz3 : wr.heap.size < w'.heap.size := by omega))
      | (go_at_call 27; refine (sheetText_any p s _ _ L _ (hm.below (by (repeat (first | exact Below.refl _ _ | assumption | (refine Below.alloc ?_ (by first | omega | (simp; done) | (simp; omega)) _) | (refine Below.setCell ?_ (by first | omega | (simp; done) | (simp; omega)) _) | (refine Below.drew ?_) | (refine Below.drewN ?_ _) | (refine Below.next (by assumption) ?_ (by first | omega | (simp; done) | (simp; omega))))))) H1.out (ht.below (by (repeat (first | exact Below.refl _ _ | assumption | (refine Below.alloc ?_ (by first | omega | (simp; done) | (simp; omega)) _) | (refine Below.setCell ?_ (by first | omega | (simp; done) | (simp; omega)) _) | (refine Below.drew ?_) | (refine Below.drewN ?_ _) | (refine Below.next (by assumption) ?_ (by first | omega | (simp; done) | (simp; omega)))))))).mono ?_; rintro e w2 ⟨rfl, hq2⟩))
    go_ret2
    exact ⟨ret_text (by simp [txV, H1.out]) rfl, by (repeat (first | exact Below.refl _ _ | assumption | (refine Below.alloc ?_ (by first | omega | (simp; done) | (simp; omega)) _) | (refine Below.setCell ?_ (by first | omega | (simp; done) | (simp; omega)) _) | (refine Below.drew ?_) | (refine Below.drewN ?_ _) | (refine Below.next (by assumption) ?_ (by first | omega | (simp; done) | (simp; omega)))))⟩
end Go.Proofs.YtdmgffcabjpihaaGreatDoor
