/-
  The walk of the law of sheets' texts.
-/
import Derived.Test.YtdmgffcabjpihaaGreatDoorFtx
import Derived.Test.YtdmgffcabjpihaaGreatDoorFty
import Derived.Test.YtdmgffcabjpihaaGreatDoorStq
import Derived.Test.YtdmgffcabjpihaaGreatDoorSpd
import Derived.Test.YtdmgffcabjpihaaGreatDoorPsf
import Derived.Test.YtdmgffcabjpihaaGreatDoorSti
import Derived.Test.YtdmgffcabjpihaaGreatDoorLsh
import Derived.Test.YtdmgffcabjpihaaGreatDoorShu
import Derived.Test.YtdmgffcabjpihaaGreatDoorDsw
import Derived.Deep.DeepCutAuto
import Derived.Deep.LoopGhost
import Derived.Deep.QuietTactic
import Derived.BigQuiet
import Derived.Lib.QuietBelow
namespace Go.Proofs.YtdmgffcabjpihaaGreatDoor
open Go.RowKit
open Go.Sort (grow)

theorem code_of {w : World} {A : Option Addr} {L : List Int} {c : Nat} (hm : Mem w A (L.flatMap fun n => [Value.int .u8 n])) (ho : ∀ x ∈ L, okByte x) (h1 : L.length ≤ c) (h2 : c ≤ maxLen) : code w A L :=
  ⟨hm, fun x hx => by have := ho x hx; unfold okByte at this; omega, by unfold maxLen at h2; omega⟩
theorem ssV_le (p : Int) (s : Sp) (L : List Rw) : (ssV p s L).length ≤ L.length := by
  cases h : shOk p s L
  · simp [ssV, h]
  · exact ss_len h
/-- What is read back is fixed by the text. -/
theorem RetPr.as {w w' : World} {t : List UInt8} {e : Ending} (h : RetPr w t e w') {r : Option (Int × Sp × List Rw)} (hr : ∀ p s L, r = some (p, s, L) ↔ shOk p s L = true ∧ shT p s L = t) {p : Int} {s : Sp} {L : List Rw} (hp : (p, s, L) = r.getD (0, ⟨0, 0⟩, [])) :
    ∃ A' c', e = .returned (.tuple #[.agg #[.int .i64 p, .int .i64 s.x, .int .i64 s.y, .slice A' L.length c'], .bool r.isSome]) ∧ w'.ownsRow w.heap.size 46 3 (.slice A' L.length c') L.length (rows L) ∧ Below w.heap.size w w' := by
  obtain ⟨r', A', c', p', s', L', hr', hp', rfl, ho, hb⟩ := h
  have e : r' = r := by
    rcases r with _ | ⟨a, b, d⟩
    · rcases r' with _ | ⟨a', b', d'⟩
      · rfl
      · have := (hr a' b' d').2 ((hr' a' b' d').1 rfl)
        cases this
    · exact (hr' a b d).2 ((hr a b d).1 rfl)
  subst e
  rw [← hp] at hp'
  obtain ⟨rfl, hp2⟩ := Prod.mk.inj hp'
  obtain ⟨rfl, rfl⟩ := Prod.mk.inj hp2
  exact ⟨A', c', rfl, ho, hb⟩
theorem pr_len {t : List UInt8} {r : Option (Int × Sp × List Rw)} (hr : ∀ p s L, r = some (p, s, L) ↔ shOk p s L = true ∧ shT p s L = t) {p : Int} {s : Sp} {L : List Rw} (hp : (p, s, L) = r.getD (0, ⟨0, 0⟩, [])) : L.length ≤ 8 := by
  rcases r with _ | ⟨a, b, d⟩
  · obtain ⟨_, hp2⟩ := Prod.mk.inj hp
    obtain ⟨_, rfl⟩ := Prod.mk.inj hp2
    exact Nat.zero_le _
  · obtain ⟨_, hp2⟩ := Prod.mk.inj hp
    obtain ⟨_, h3⟩ := Prod.mk.inj hp2
    have h4 : L = d := h3
    rw [h4]
    exact (shOk_iff.1 ((hr a b d).1 rfl).1).2.2.1
/-- A box of a sheet. -/
def Bsx (w : World) (g : Nat) (p : Int) (s : Sp) (A : Option Addr) (n c : Nat) : Prop := Blk w g #[.int .i64 p, .int .i64 s.x, .int .i64 s.y, .slice A n c] 28
theorem Bsx.below {w w' : World} {g : Nat} {p : Int} {s : Sp} {A : Option Addr} {n c : Nat} (h : Bsx w g p s A n c) (hq : Below w.heap.size w w') : Bsx w' g p s A n c := Blk.below h hq (Blk.lt h)
theorem Bsx.cells {w : World} {g : Nat} {p : Int} {s : Sp} {A : Option Addr} {n c : Nat} (h : Bsx w g p s A n c) : w.cell? ⟨g, 0, none⟩ = some (.int .i64 p) ∧ w.cell? ⟨g, 1, none⟩ = some (.int .i64 s.x) ∧ w.cell? ⟨g, 2, none⟩ = some (.int .i64 s.y) ∧ w.cell? ⟨g, 3, none⟩ = some (.slice A n c) ∧ g < w.heap.size :=
  ⟨Blk.cell h 0, Blk.cell h 1, Blk.cell h 2, Blk.cell h 3, Blk.lt h⟩
theorem Bsx.new (w : World) (p : Int) (s : Sp) (A : Option Addr) (n c : Nat) : Bsx (w.alloc (.cells #[.int .i64 p, .int .i64 s.x, .int .i64 s.y, .slice A n c] 28)) w.heap.size p s A n c := Blk.new w _ _
theorem Bsx.new2 (w : World) (p : Int) (s : Sp) (A : Option Addr) (n c : Nat) (o : Obj) : Bsx ((w.alloc o).alloc (.cells #[.int .i64 p, .int .i64 s.x, .int .i64 s.y, .slice A n c] 28)) (w.heap.size + 1) p s A n c := by
  have := Bsx.new (w.alloc o) p s A n c
  simpa using this
theorem Bsx.new1 (w : World) (p : Int) (s : Sp) (A : Option Addr) (n c : Nat) (o : Obj) : Bsx ((w.alloc (.cells #[.int .i64 p, .int .i64 s.x, .int .i64 s.y, .slice A n c] 28)).alloc o) w.heap.size p s A n c := Blk.alloc (Blk.new w _ _) _
/-- Boxes of a spot, a row, a move. -/
def Bsp (w : World) (g : Nat) (s : Sp) : Prop := Blk w g #[.int .i64 s.x, .int .i64 s.y] 25
theorem Bsp.below {w w' : World} {g : Nat} {s : Sp} (h : Bsp w g s) (hq : Below w.heap.size w w') : Bsp w' g s := Blk.below h hq (Blk.lt h)
theorem Bsp.cells {w : World} {g : Nat} {s : Sp} (h : Bsp w g s) : w.cell? ⟨g, 0, none⟩ = some (.int .i64 s.x) ∧ w.cell? ⟨g, 1, none⟩ = some (.int .i64 s.y) ∧ g < w.heap.size := ⟨Blk.cell h 0, Blk.cell h 1, Blk.lt h⟩
theorem Bsp.new (w : World) (s : Sp) : Bsp (w.alloc (.cells #[.int .i64 s.x, .int .i64 s.y] 25)) w.heap.size s := Blk.new w _ _
def Bro (w : World) (g : Nat) (r : Rw) : Prop := Blk w g #[.int .i64 r.c, .int .i64 r.t.x, .int .i64 r.t.y] 46
theorem Bro.below {w w' : World} {g : Nat} {r : Rw} (h : Bro w g r) (hq : Below w.heap.size w w') : Bro w' g r := Blk.below h hq (Blk.lt h)
theorem Bro.cells {w : World} {g : Nat} {r : Rw} (h : Bro w g r) : w.cell? ⟨g, 0, none⟩ = some (.int .i64 r.c) ∧ w.cell? ⟨g, 1, none⟩ = some (.int .i64 r.t.x) ∧ w.cell? ⟨g, 2, none⟩ = some (.int .i64 r.t.y) ∧ g < w.heap.size := ⟨Blk.cell h 0, Blk.cell h 1, Blk.cell h 2, Blk.lt h⟩
theorem Bro.new (w : World) (r : Rw) : Bro (w.alloc (.cells #[.int .i64 r.c, .int .i64 r.t.x, .int .i64 r.t.y] 46)) w.heap.size r := Blk.new w _ _
def Bmo (w : World) (g : Nat) (m : Mv) : Prop := Blk w g #[.int .i64 m.f.x, .int .i64 m.f.y, .int .i64 m.t.x, .int .i64 m.t.y, .int .i64 m.c] 49
theorem Bmo.below {w w' : World} {g : Nat} {m : Mv} (h : Bmo w g m) (hq : Below w.heap.size w w') : Bmo w' g m := Blk.below h hq (Blk.lt h)
theorem Bmo.cells {w : World} {g : Nat} {m : Mv} (h : Bmo w g m) : w.cell? ⟨g, 0, none⟩ = some (.int .i64 m.f.x) ∧ w.cell? ⟨g, 1, none⟩ = some (.int .i64 m.f.y) ∧ w.cell? ⟨g, 2, none⟩ = some (.int .i64 m.t.x) ∧ w.cell? ⟨g, 3, none⟩ = some (.int .i64 m.t.y) ∧ w.cell? ⟨g, 4, none⟩ = some (.int .i64 m.c) ∧ g < w.heap.size := ⟨Blk.cell h 0, Blk.cell h 1, Blk.cell h 2, Blk.cell h 3, Blk.cell h 4, Blk.lt h⟩
theorem Bmo.new (w : World) (m : Mv) : Bmo (w.alloc (.cells #[.int .i64 m.f.x, .int .i64 m.f.y, .int .i64 m.t.x, .int .i64 m.t.y, .int .i64 m.c] 49)) w.heap.size m := Blk.new w _ _
set_option maxRecDepth 100000 in
set_option maxHeartbeats 20000000 in
theorem FnSheetTexts_walk (A0 : Option Addr) (c0 : Nat) (L0 : List Int) (A1 : Option Addr) (c1 : Nat) (L1 : List Int) (W : World) (m0 : Mem W A0 (L0.flatMap fun n => [Value.int .u8 n])) (k0 : ∀ x ∈ L0, okByte x) (l0 : L0.length ≤ c0) (n0 : c0 ≤ maxLen)
    (m1 : Mem W A1 (L1.flatMap fun n => [Value.int .u8 n])) (k1 : ∀ x ∈ L1, okByte x) (l1 : L1.length ≤ c1) (n1 : c1 ≤ maxLen) (hT : Tab W) (hM : ∃ m, Mxl W m) :
    Calls Tryz.prog 3 #[.slice A0 L0.length c0, .slice A1 L1.length c1] W fun e W' => e = .returned (.bool true) ∧ Below W.heap.size W W' := by
  obtain ⟨mx, hmx⟩ := hM
  have K0 := Lib.hid (code_of m0 k0 l0 n0)
  have K1 := Lib.hid (code_of m1 k1 l1 n1)
  have HT := Lib.hid hT
  have HX := Lib.hid hmx
  unfold maxLen at n0 n1
  have q0 : L0.length ≤ 9223372036854775807 := by omega
  clear m0 k0 m1 k1
  clear l0 n0 l1 n1 hT hmx
  go_enter Tryz.func3, Tryz.ntmps3
  go_wp2_with fail
  refine (big_any _ _ _ _ _ _ _ q0).mono ?_
  rintro e _ ⟨b, rfl, rfl⟩
  cases b
  case true =>
    go_wp2
    go_ret
    exact ⟨rfl, Below.refl _ _⟩
  go_wp2_with fail
  refine (drawSheetText_any _ _ _ _ K0.out).mono ?_
  rintro e w1 ⟨p, s, A, c, L, rfl, hown, hl, hsm, hq⟩
  have O1 := Lib.hid hown
  have BB := Lib.hid hq
  have K1_ := Lib.hid (K1.out.below hq)
  have HT_ := Lib.hid (HT.out.below hq)
  have HX_ := Lib.hid (HX.out.below hq)
  clear K0 K1 HT HX
  have K1 := Lib.hid K1_.out
  have HT := Lib.hid HT_.out
  have HX := Lib.hid HX_.out
  clear K1_ HT_ HX_ hown hq hsm
  obtain ⟨b0, hb0⟩ : ∃ x, shOk p s L = x := ⟨_, rfl⟩
  have HB0 := Lib.hid hb0
  obtain ⟨T, hT⟩ : ∃ x, txV p s L = x := ⟨_, rfl⟩
  have HTX := Lib.hid hT
  obtain ⟨MV, hMV⟩ : ∃ x, moV p s L = x := ⟨_, rfl⟩
  have HMV := Lib.hid hMV
  obtain ⟨P2, hP2⟩ : ∃ x, ssP p s L = x := ⟨_, rfl⟩
  have HP2 := Lib.hid hP2
  obtain ⟨S2, hS2⟩ : ∃ x, ssS p s L = x := ⟨_, rfl⟩
  have HS2 := Lib.hid hS2
  obtain ⟨V, hV⟩ : ∃ x, ssV p s L = x := ⟨_, rfl⟩
  have HV2 := Lib.hid hV
  obtain ⟨lo, hlo⟩ : ∃ x, loV p s L = x := ⟨_, rfl⟩
  have HLO := Lib.hid hlo
  have HLK := Lib.hid (show loOk p s L = (b0 && decide (0 < L.length)) by rw [loOk, hb0])
  have hml : MV.length ≤ 9 := by rw [← hMV]; have := moV_le p s L; omega
  have hvl : V.length ≤ 9 := by rw [← hV]; have := ssV_le p s L; omega
  clear hb0 hT hMV hP2 hS2 hV hlo
  have Z1 := Lib.hid (Bsx.new w1 p s A L.length c)
  have hq : Below w1.heap.size w1 (w1.alloc (.cells #[.int .i64 p, .int .i64 s.x, .int .i64 s.y, .slice A L.length c] 28)) := (Below.refl _ _).alloc (Nat.le_refl _) _
  have K1_ := Lib.hid (K1.out.below hq)
  have HT_ := Lib.hid (HT.out.below hq)
  have HX_ := Lib.hid (HX.out.below hq)
  have BB_ := Lib.hid (Below.next hq BB.out BB.out.size)
  have O1_ := Lib.hid (own_below O1.out hq)
  clear K1 HT HX BB O1
  have K1 := Lib.hid K1_.out
  have HT := Lib.hid HT_.out
  have HX := Lib.hid HX_.out
  have BB := Lib.hid BB_.out
  have O1 := Lib.hid O1_.out
  clear K1_ HT_ HX_ BB_ O1_
  clear hq
  go_wp2_with fail
  generalize w1.alloc (.cells #[.int .i64 p, .int .i64 s.x, .int .i64 s.y, .slice A L.length c] 28) = w2 at *
  generalize w1.heap.size = g1 at *
  refine (impl_SheetText_any p s A c L w2 (Mem.of_own O1.out) (by omega) HT.out).mono ?_
  rintro e w3 ⟨he, hq⟩
  rw [HTX.out, HB0.out] at he
  subst he
  have K1_ := Lib.hid (K1.out.below hq)
  have HT_ := Lib.hid (HT.out.below hq)
  have HX_ := Lib.hid (HX.out.below hq)
  have BB_ := Lib.hid (Below.next hq BB.out BB.out.size)
  have O1_ := Lib.hid (own_below O1.out hq)
  have Z1_ := Lib.hid (Z1.out.below hq)
  clear K1 HT HX BB O1 Z1
  have K1 := Lib.hid K1_.out
  have HT := Lib.hid HT_.out
  have HX := Lib.hid HX_.out
  have BB := Lib.hid BB_.out
  have O1 := Lib.hid O1_.out
  have Z1 := Lib.hid Z1_.out
  clear K1_ HT_ HX_ BB_ O1_ Z1_
  clear hq
  clear HT
  obtain ⟨Z1_0, Z1_1, Z1_2, Z1_3, Z1_4⟩ := Bsx.cells Z1.out
  go_wp2_with fail
  clear Z1_0 Z1_1 Z1_2 Z1_3 Z1_4
  refine (spec_SheetText_any p s A c L w3 (Mem.of_own O1.out) (by omega)).mono ?_
  rintro e w4 ⟨he, hq⟩
  rw [HTX.out, HB0.out] at he
  subst he
  have K1_ := Lib.hid (K1.out.below hq)
  have HX_ := Lib.hid (HX.out.below hq)
  have BB_ := Lib.hid (Below.next hq BB.out BB.out.size)
  have O1_ := Lib.hid (own_below O1.out hq)
  have Z1_ := Lib.hid (Z1.out.below hq)
  clear K1 HX BB O1 Z1
  have K1 := Lib.hid K1_.out
  have HX := Lib.hid HX_.out
  have BB := Lib.hid BB_.out
  have O1 := Lib.hid O1_.out
  have Z1 := Lib.hid Z1_.out
  clear K1_ HX_ BB_ O1_ Z1_
  clear hq
  obtain ⟨Z1_0, Z1_1, Z1_2, Z1_3, Z1_4⟩ := Bsx.cells Z1.out
  go_wp2_with fail
  clear Z1_0 Z1_1 Z1_2 Z1_3 Z1_4
  refine (impl_MovesOf_any p s A c L w4 (Mem.of_own O1.out) (by omega)).mono ?_
  rintro e w5 ⟨Am, cm, he, hom, hq⟩
  rw [HMV.out, HB0.out] at he
  rw [HMV.out] at hom
  have hbs := BB.out.size
  subst he
  have K1_ := Lib.hid (K1.out.below hq)
  have HX_ := Lib.hid (HX.out.below hq)
  have BB_ := Lib.hid (Below.next hq BB.out BB.out.size)
  have O1_ := Lib.hid (own_below O1.out hq)
  have Z1_ := Lib.hid (Z1.out.below hq)
  clear K1 HX BB O1 Z1
  have K1 := Lib.hid K1_.out
  have HX := Lib.hid HX_.out
  have BB := Lib.hid BB_.out
  have O1 := Lib.hid O1_.out
  have Z1 := Lib.hid Z1_.out
  clear K1_ HX_ BB_ O1_ Z1_
  have OM1 := Lib.hid (own_base hom hbs)
  clear hq hbs hom
  obtain ⟨Z1_0, Z1_1, Z1_2, Z1_3, Z1_4⟩ := Bsx.cells Z1.out
  go_wp2_with fail
  clear Z1_0 Z1_1 Z1_2 Z1_3 Z1_4
  refine (spec_MovesOf_any p s A c L w5 (Mem.of_own O1.out) (by omega)).mono ?_
  rintro e w6 ⟨An, cn, he, hom, hq⟩
  rw [HMV.out, HB0.out] at he
  rw [HMV.out] at hom
  have hbs := BB.out.size
  subst he
  have K1_ := Lib.hid (K1.out.below hq)
  have HX_ := Lib.hid (HX.out.below hq)
  have BB_ := Lib.hid (Below.next hq BB.out BB.out.size)
  have O1_ := Lib.hid (own_below O1.out hq)
  have Z1_ := Lib.hid (Z1.out.below hq)
  have OM1_ := Lib.hid (own_below OM1.out hq)
  clear K1 HX BB O1 Z1 OM1
  have K1 := Lib.hid K1_.out
  have HX := Lib.hid HX_.out
  have BB := Lib.hid BB_.out
  have O1 := Lib.hid O1_.out
  have Z1 := Lib.hid Z1_.out
  have OM1 := Lib.hid OM1_.out
  clear K1_ HX_ BB_ O1_ Z1_ OM1_
  have OM2 := Lib.hid (own_base hom hbs)
  clear hq hbs hom
  obtain ⟨Z1_0, Z1_1, Z1_2, Z1_3, Z1_4⟩ := Bsx.cells Z1.out
  go_wp2_with fail
  clear Z1_0 Z1_1 Z1_2 Z1_3 Z1_4
  refine (impl_ShortenSheet_any p s A c L w6 (Mem.of_own O1.out) (by omega)).mono ?_
  rintro e w7 ⟨Ah, ch, he, hom, hq⟩
  rw [HP2.out, HS2.out, HV2.out, HB0.out] at he
  rw [HV2.out] at hom
  have hbs := BB.out.size
  subst he
  have K1_ := Lib.hid (K1.out.below hq)
  have HX_ := Lib.hid (HX.out.below hq)
  have BB_ := Lib.hid (Below.next hq BB.out BB.out.size)
  have O1_ := Lib.hid (own_below O1.out hq)
  have Z1_ := Lib.hid (Z1.out.below hq)
  have OM1_ := Lib.hid (own_below OM1.out hq)
  have OM2_ := Lib.hid (own_below OM2.out hq)
  clear K1 HX BB O1 Z1 OM1 OM2
  have K1 := Lib.hid K1_.out
  have HX := Lib.hid HX_.out
  have BB := Lib.hid BB_.out
  have O1 := Lib.hid O1_.out
  have Z1 := Lib.hid Z1_.out
  have OM1 := Lib.hid OM1_.out
  have OM2 := Lib.hid OM2_.out
  clear K1_ HX_ BB_ O1_ Z1_ OM1_ OM2_
  have OH1 := Lib.hid (own_base hom hbs)
  clear hq hbs hom
  have Z2 := Lib.hid (Bsx.new w7 P2 S2 Ah V.length ch)
  have hq : Below w7.heap.size w7 (w7.alloc (.cells #[.int .i64 P2, .int .i64 S2.x, .int .i64 S2.y, .slice Ah V.length ch] 28)) := (Below.refl _ _).alloc (Nat.le_refl _) _
  have K1_ := Lib.hid (K1.out.below hq)
  have HX_ := Lib.hid (HX.out.below hq)
  have BB_ := Lib.hid (Below.next hq BB.out BB.out.size)
  have O1_ := Lib.hid (own_below O1.out hq)
  have Z1_ := Lib.hid (Z1.out.below hq)
  have OM1_ := Lib.hid (own_below OM1.out hq)
  have OM2_ := Lib.hid (own_below OM2.out hq)
  have OH1_ := Lib.hid (own_below OH1.out hq)
  clear K1 HX BB O1 Z1 OM1 OM2 OH1
  have K1 := Lib.hid K1_.out
  have HX := Lib.hid HX_.out
  have BB := Lib.hid BB_.out
  have O1 := Lib.hid O1_.out
  have Z1 := Lib.hid Z1_.out
  have OM1 := Lib.hid OM1_.out
  have OM2 := Lib.hid OM2_.out
  have OH1 := Lib.hid OH1_.out
  clear K1_ HX_ BB_ O1_ Z1_ OM1_ OM2_ OH1_
  clear hq
  obtain ⟨Z1_0, Z1_1, Z1_2, Z1_3, Z1_4⟩ := Bsx.cells Z1.out
  go_wp2_with fail
  clear Z1_0 Z1_1 Z1_2 Z1_3 Z1_4
  generalize w7.alloc (.cells #[.int .i64 P2, .int .i64 S2.x, .int .i64 S2.y, .slice Ah V.length ch] 28) = w8 at *
  generalize w7.heap.size = g2 at *
  refine (spec_ShortenSheet_any p s A c L w8 (Mem.of_own O1.out) (by omega)).mono ?_
  rintro e w9 ⟨Ak, ck, he, hom, hq⟩
  rw [HP2.out, HS2.out, HV2.out, HB0.out] at he
  rw [HV2.out] at hom
  have hbs := BB.out.size
  subst he
  have K1_ := Lib.hid (K1.out.below hq)
  have HX_ := Lib.hid (HX.out.below hq)
  have BB_ := Lib.hid (Below.next hq BB.out BB.out.size)
  have O1_ := Lib.hid (own_below O1.out hq)
  have Z1_ := Lib.hid (Z1.out.below hq)
  have OM1_ := Lib.hid (own_below OM1.out hq)
  have OM2_ := Lib.hid (own_below OM2.out hq)
  have OH1_ := Lib.hid (own_below OH1.out hq)
  have Z2_ := Lib.hid (Z2.out.below hq)
  clear K1 HX BB O1 Z1 OM1 OM2 OH1 Z2
  have K1 := Lib.hid K1_.out
  have HX := Lib.hid HX_.out
  have BB := Lib.hid BB_.out
  have O1 := Lib.hid O1_.out
  have Z1 := Lib.hid Z1_.out
  have OM1 := Lib.hid OM1_.out
  have OM2 := Lib.hid OM2_.out
  have OH1 := Lib.hid OH1_.out
  have Z2 := Lib.hid Z2_.out
  clear K1_ HX_ BB_ O1_ Z1_ OM1_ OM2_ OH1_ Z2_
  have OH2 := Lib.hid (own_base hom hbs)
  clear hq hbs hom
  have Z3 := Lib.hid (Bsx.new w9 P2 S2 Ak V.length ck)
  have hq : Below w9.heap.size w9 (w9.alloc (.cells #[.int .i64 P2, .int .i64 S2.x, .int .i64 S2.y, .slice Ak V.length ck] 28)) := (Below.refl _ _).alloc (Nat.le_refl _) _
  have K1_ := Lib.hid (K1.out.below hq)
  have HX_ := Lib.hid (HX.out.below hq)
  have BB_ := Lib.hid (Below.next hq BB.out BB.out.size)
  have O1_ := Lib.hid (own_below O1.out hq)
  have Z1_ := Lib.hid (Z1.out.below hq)
  have OM1_ := Lib.hid (own_below OM1.out hq)
  have OM2_ := Lib.hid (own_below OM2.out hq)
  have OH1_ := Lib.hid (own_below OH1.out hq)
  have Z2_ := Lib.hid (Z2.out.below hq)
  have OH2_ := Lib.hid (own_below OH2.out hq)
  clear K1 HX BB O1 Z1 OM1 OM2 OH1 Z2 OH2
  have K1 := Lib.hid K1_.out
  have HX := Lib.hid HX_.out
  have BB := Lib.hid BB_.out
  have O1 := Lib.hid O1_.out
  have Z1 := Lib.hid Z1_.out
  have OM1 := Lib.hid OM1_.out
  have OM2 := Lib.hid OM2_.out
  have OH1 := Lib.hid OH1_.out
  have Z2 := Lib.hid Z2_.out
  have OH2 := Lib.hid OH2_.out
  clear K1_ HX_ BB_ O1_ Z1_ OM1_ OM2_ OH1_ Z2_ OH2_
  clear hq
  obtain ⟨Z1_0, Z1_1, Z1_2, Z1_3, Z1_4⟩ := Bsx.cells Z1.out
  obtain ⟨Z2_0, Z2_1, Z2_2, Z2_3, Z2_4⟩ := Bsx.cells Z2.out
  go_wp2_with fail
  clear Z1_0 Z1_1 Z1_2 Z1_3 Z1_4 Z2_0 Z2_1 Z2_2 Z2_3 Z2_4
  generalize w9.alloc (.cells #[.int .i64 P2, .int .i64 S2.x, .int .i64 S2.y, .slice Ak V.length ck] 28) = w10 at *
  generalize w9.heap.size = g3 at *
  refine (impl_LongestRow_any p s A c L w10 (Mem.of_own O1.out) (by omega)).mono ?_
  rintro e w11 ⟨he, hq⟩
  rw [HLO.out, HLK.out] at he
  subst he
  have K1_ := Lib.hid (K1.out.below hq)
  have HX_ := Lib.hid (HX.out.below hq)
  have BB_ := Lib.hid (Below.next hq BB.out BB.out.size)
  have O1_ := Lib.hid (own_below O1.out hq)
  have Z1_ := Lib.hid (Z1.out.below hq)
  have OM1_ := Lib.hid (own_below OM1.out hq)
  have OM2_ := Lib.hid (own_below OM2.out hq)
  have OH1_ := Lib.hid (own_below OH1.out hq)
  have Z2_ := Lib.hid (Z2.out.below hq)
  have OH2_ := Lib.hid (own_below OH2.out hq)
  have Z3_ := Lib.hid (Z3.out.below hq)
  clear K1 HX BB O1 Z1 OM1 OM2 OH1 Z2 OH2 Z3
  have K1 := Lib.hid K1_.out
  have HX := Lib.hid HX_.out
  have BB := Lib.hid BB_.out
  have O1 := Lib.hid O1_.out
  have Z1 := Lib.hid Z1_.out
  have OM1 := Lib.hid OM1_.out
  have OM2 := Lib.hid OM2_.out
  have OH1 := Lib.hid OH1_.out
  have Z2 := Lib.hid Z2_.out
  have OH2 := Lib.hid OH2_.out
  have Z3 := Lib.hid Z3_.out
  clear K1_ HX_ BB_ O1_ Z1_ OM1_ OM2_ OH1_ Z2_ OH2_ Z3_
  clear hq
  obtain ⟨Z1_0, Z1_1, Z1_2, Z1_3, Z1_4⟩ := Bsx.cells Z1.out
  obtain ⟨Z2_0, Z2_1, Z2_2, Z2_3, Z2_4⟩ := Bsx.cells Z2.out
  obtain ⟨Z3_0, Z3_1, Z3_2, Z3_3, Z3_4⟩ := Bsx.cells Z3.out
  go_wp2_with fail
  clear Z1_0 Z1_1 Z1_2 Z1_3 Z1_4 Z2_0 Z2_1 Z2_2 Z2_3 Z2_4 Z3_0 Z3_1 Z3_2 Z3_3 Z3_4
  refine (spec_LongestRow_any p s A c L w11 (Mem.of_own O1.out) (by omega)).mono ?_
  rintro e w12 ⟨he, hq⟩
  rw [HLO.out, HLK.out] at he
  subst he
  have K1_ := Lib.hid (K1.out.below hq)
  have HX_ := Lib.hid (HX.out.below hq)
  have BB_ := Lib.hid (Below.next hq BB.out BB.out.size)
  have O1_ := Lib.hid (own_below O1.out hq)
  have Z1_ := Lib.hid (Z1.out.below hq)
  have OM1_ := Lib.hid (own_below OM1.out hq)
  have OM2_ := Lib.hid (own_below OM2.out hq)
  have OH1_ := Lib.hid (own_below OH1.out hq)
  have Z2_ := Lib.hid (Z2.out.below hq)
  have OH2_ := Lib.hid (own_below OH2.out hq)
  have Z3_ := Lib.hid (Z3.out.below hq)
  clear K1 HX BB O1 Z1 OM1 OM2 OH1 Z2 OH2 Z3
  have K1 := Lib.hid K1_.out
  have HX := Lib.hid HX_.out
  have BB := Lib.hid BB_.out
  have O1 := Lib.hid O1_.out
  have Z1 := Lib.hid Z1_.out
  have OM1 := Lib.hid OM1_.out
  have OM2 := Lib.hid OM2_.out
  have OH1 := Lib.hid OH1_.out
  have Z2 := Lib.hid Z2_.out
  have OH2 := Lib.hid OH2_.out
  have Z3 := Lib.hid Z3_.out
  clear K1_ HX_ BB_ O1_ Z1_ OM1_ OM2_ OH1_ Z2_ OH2_ Z3_
  clear hq
  go_upto_region 12 with (fail)
  go_cut [166] from 100 to 166 (fun v166 wx => v166 = .bool false ∧ Below W.heap.size W wx ∧ Hid (code wx A1 L1) ∧ Hid (Mxl wx mx) ∧ Hid (wx.ownsRow W.heap.size 46 3 (.slice A L.length c) L.length (rows L)) ∧ Hid (Bsx wx g1 p s A L.length c) ∧ Hid (wx.ownsRow W.heap.size 49 5 (.slice An MV.length cn) MV.length (moves MV)) ∧ Hid (wx.ownsRow W.heap.size 46 3 (.slice Ah V.length ch) V.length (rows V)) ∧ Hid (Bsx wx g2 P2 S2 Ah V.length ch) ∧ Hid (wx.ownsRow W.heap.size 46 3 (.slice Ak V.length ck) V.length (rows V)) ∧ Hid (Bsx wx g3 P2 S2 Ak V.length ck))
  case first =>
    cases b0
    case false => as_aux_lemma =>
      simp only [Bool.false_and]
      obtain ⟨Z1_0, Z1_1, Z1_2, Z1_3, Z1_4⟩ := Bsx.cells Z1.out
      obtain ⟨Z2_0, Z2_1, Z2_2, Z2_3, Z2_4⟩ := Bsx.cells Z2.out
      obtain ⟨Z3_0, Z3_1, Z3_2, Z3_3, Z3_4⟩ := Bsx.cells Z3.out
      go_wp2_with fail
      clear Z1_0 Z1_1 Z1_2 Z1_3 Z1_4 Z2_0 Z2_1 Z2_2 Z2_3 Z2_4 Z3_0 Z3_1 Z3_2 Z3_3 Z3_4
      refine (pSameMoves_same Am An cm cn MV w12 (Mem.of_own OM1.out) (Mem.of_own OM2.out) (by omega)).mono ?_
      rintro e w13 ⟨rfl, hq⟩
      have K1_ := Lib.hid (K1.out.below hq)
      have HX_ := Lib.hid (HX.out.below hq)
      have BB_ := Lib.hid (Below.next hq BB.out BB.out.size)
      have O1_ := Lib.hid (own_below O1.out hq)
      have Z1_ := Lib.hid (Z1.out.below hq)
      have OM1_ := Lib.hid (own_below OM1.out hq)
      have OM2_ := Lib.hid (own_below OM2.out hq)
      have OH1_ := Lib.hid (own_below OH1.out hq)
      have Z2_ := Lib.hid (Z2.out.below hq)
      have OH2_ := Lib.hid (own_below OH2.out hq)
      have Z3_ := Lib.hid (Z3.out.below hq)
      clear K1 HX BB O1 Z1 OM1 OM2 OH1 Z2 OH2 Z3
      have K1 := Lib.hid K1_.out
      have HX := Lib.hid HX_.out
      have BB := Lib.hid BB_.out
      have O1 := Lib.hid O1_.out
      have Z1 := Lib.hid Z1_.out
      have OM1 := Lib.hid OM1_.out
      have OM2 := Lib.hid OM2_.out
      have OH1 := Lib.hid OH1_.out
      have Z2 := Lib.hid Z2_.out
      have OH2 := Lib.hid OH2_.out
      have Z3 := Lib.hid Z3_.out
      clear K1_ HX_ BB_ O1_ Z1_ OM1_ OM2_ OH1_ Z2_ OH2_ Z3_
      clear hq
      clear OM1
      obtain ⟨Z1_0, Z1_1, Z1_2, Z1_3, Z1_4⟩ := Bsx.cells Z1.out
      obtain ⟨Z2_0, Z2_1, Z2_2, Z2_3, Z2_4⟩ := Bsx.cells Z2.out
      obtain ⟨Z3_0, Z3_1, Z3_2, Z3_3, Z3_4⟩ := Bsx.cells Z3.out
      go_wp2_with fail
      clear Z1_0 Z1_1 Z1_2 Z1_3 Z1_4 Z2_0 Z2_1 Z2_2 Z2_3 Z2_4 Z3_0 Z3_1 Z3_2 Z3_3 Z3_4
      refine (pSameSheet_same P2 S2 Ah Ak ch ck V w13 (Mem.of_own OH1.out) (Mem.of_own OH2.out) (by omega)).mono ?_
      rintro e w14 ⟨rfl, hq⟩
      have K1_ := Lib.hid (K1.out.below hq)
      have HX_ := Lib.hid (HX.out.below hq)
      have BB_ := Lib.hid (Below.next hq BB.out BB.out.size)
      have O1_ := Lib.hid (own_below O1.out hq)
      have Z1_ := Lib.hid (Z1.out.below hq)
      have OM2_ := Lib.hid (own_below OM2.out hq)
      have OH1_ := Lib.hid (own_below OH1.out hq)
      have Z2_ := Lib.hid (Z2.out.below hq)
      have OH2_ := Lib.hid (own_below OH2.out hq)
      have Z3_ := Lib.hid (Z3.out.below hq)
      clear K1 HX BB O1 Z1 OM2 OH1 Z2 OH2 Z3
      have K1 := Lib.hid K1_.out
      have HX := Lib.hid HX_.out
      have BB := Lib.hid BB_.out
      have O1 := Lib.hid O1_.out
      have Z1 := Lib.hid Z1_.out
      have OM2 := Lib.hid OM2_.out
      have OH1 := Lib.hid OH1_.out
      have Z2 := Lib.hid Z2_.out
      have OH2 := Lib.hid OH2_.out
      have Z3 := Lib.hid Z3_.out
      clear K1_ HX_ BB_ O1_ Z1_ OM2_ OH1_ Z2_ OH2_ Z3_
      clear hq
      obtain ⟨Z1_0, Z1_1, Z1_2, Z1_3, Z1_4⟩ := Bsx.cells Z1.out
      obtain ⟨Z2_0, Z2_1, Z2_2, Z2_3, Z2_4⟩ := Bsx.cells Z2.out
      obtain ⟨Z3_0, Z3_1, Z3_2, Z3_3, Z3_4⟩ := Bsx.cells Z3.out
      go_wp2_with fail
      clear Z1_0 Z1_1 Z1_2 Z1_3 Z1_4 Z2_0 Z2_1 Z2_2 Z2_3 Z2_4 Z3_0 Z3_1 Z3_2 Z3_3 Z3_4
      refine (IsSheet_any p s A c L w14 (Mem.of_own O1.out) (by omega)).mono ?_
      rintro e w15 ⟨he, hq⟩
      rw [HB0.out] at he
      subst he
      have K1_ := Lib.hid (K1.out.below hq)
      have HX_ := Lib.hid (HX.out.below hq)
      have BB_ := Lib.hid (Below.next hq BB.out BB.out.size)
      have O1_ := Lib.hid (own_below O1.out hq)
      have Z1_ := Lib.hid (Z1.out.below hq)
      have OM2_ := Lib.hid (own_below OM2.out hq)
      have OH1_ := Lib.hid (own_below OH1.out hq)
      have Z2_ := Lib.hid (Z2.out.below hq)
      have OH2_ := Lib.hid (own_below OH2.out hq)
      have Z3_ := Lib.hid (Z3.out.below hq)
      clear K1 HX BB O1 Z1 OM2 OH1 Z2 OH2 Z3
      have K1 := Lib.hid K1_.out
      have HX := Lib.hid HX_.out
      have BB := Lib.hid BB_.out
      have O1 := Lib.hid O1_.out
      have Z1 := Lib.hid Z1_.out
      have OM2 := Lib.hid OM2_.out
      have OH1 := Lib.hid OH1_.out
      have Z2 := Lib.hid Z2_.out
      have OH2 := Lib.hid OH2_.out
      have Z3 := Lib.hid Z3_.out
      clear K1_ HX_ BB_ O1_ Z1_ OM2_ OH1_ Z2_ OH2_ Z3_
      clear hq
      obtain ⟨Z1_0, Z1_1, Z1_2, Z1_3, Z1_4⟩ := Bsx.cells Z1.out
      obtain ⟨Z2_0, Z2_1, Z2_2, Z2_3, Z2_4⟩ := Bsx.cells Z2.out
      obtain ⟨Z3_0, Z3_1, Z3_2, Z3_3, Z3_4⟩ := Bsx.cells Z3.out
      go_wp2_with fail
      clear Z1_0 Z1_1 Z1_2 Z1_3 Z1_4 Z2_0 Z2_1 Z2_2 Z2_3 Z2_4 Z3_0 Z3_1 Z3_2 Z3_3 Z3_4
      go_meet
      exact ⟨rfl, BB.out, K1, HX, O1, Z1, OM2, OH1, Z2, OH2, Z3⟩
    case true => as_aux_lemma =>
      simp only [Bool.true_and]
      obtain ⟨Z1_0, Z1_1, Z1_2, Z1_3, Z1_4⟩ := Bsx.cells Z1.out
      obtain ⟨Z2_0, Z2_1, Z2_2, Z2_3, Z2_4⟩ := Bsx.cells Z2.out
      obtain ⟨Z3_0, Z3_1, Z3_2, Z3_3, Z3_4⟩ := Bsx.cells Z3.out
      go_wp2_with fail
      clear Z1_0 Z1_1 Z1_2 Z1_3 Z1_4 Z2_0 Z2_1 Z2_2 Z2_3 Z2_4 Z3_0 Z3_1 Z3_2 Z3_3 Z3_4
      refine (pSameMoves_same Am An cm cn MV w12 (Mem.of_own OM1.out) (Mem.of_own OM2.out) (by omega)).mono ?_
      rintro e w16 ⟨rfl, hq⟩
      have K1_ := Lib.hid (K1.out.below hq)
      have HX_ := Lib.hid (HX.out.below hq)
      have BB_ := Lib.hid (Below.next hq BB.out BB.out.size)
      have O1_ := Lib.hid (own_below O1.out hq)
      have Z1_ := Lib.hid (Z1.out.below hq)
      have OM1_ := Lib.hid (own_below OM1.out hq)
      have OM2_ := Lib.hid (own_below OM2.out hq)
      have OH1_ := Lib.hid (own_below OH1.out hq)
      have Z2_ := Lib.hid (Z2.out.below hq)
      have OH2_ := Lib.hid (own_below OH2.out hq)
      have Z3_ := Lib.hid (Z3.out.below hq)
      clear K1 HX BB O1 Z1 OM1 OM2 OH1 Z2 OH2 Z3
      have K1 := Lib.hid K1_.out
      have HX := Lib.hid HX_.out
      have BB := Lib.hid BB_.out
      have O1 := Lib.hid O1_.out
      have Z1 := Lib.hid Z1_.out
      have OM1 := Lib.hid OM1_.out
      have OM2 := Lib.hid OM2_.out
      have OH1 := Lib.hid OH1_.out
      have Z2 := Lib.hid Z2_.out
      have OH2 := Lib.hid OH2_.out
      have Z3 := Lib.hid Z3_.out
      clear K1_ HX_ BB_ O1_ Z1_ OM1_ OM2_ OH1_ Z2_ OH2_ Z3_
      clear hq
      clear OM1
      obtain ⟨Z1_0, Z1_1, Z1_2, Z1_3, Z1_4⟩ := Bsx.cells Z1.out
      obtain ⟨Z2_0, Z2_1, Z2_2, Z2_3, Z2_4⟩ := Bsx.cells Z2.out
      obtain ⟨Z3_0, Z3_1, Z3_2, Z3_3, Z3_4⟩ := Bsx.cells Z3.out
      go_wp2_with fail
      clear Z1_0 Z1_1 Z1_2 Z1_3 Z1_4 Z2_0 Z2_1 Z2_2 Z2_3 Z2_4 Z3_0 Z3_1 Z3_2 Z3_3 Z3_4
      refine (pSameSheet_same P2 S2 Ah Ak ch ck V w16 (Mem.of_own OH1.out) (Mem.of_own OH2.out) (by omega)).mono ?_
      rintro e w17 ⟨rfl, hq⟩
      have K1_ := Lib.hid (K1.out.below hq)
      have HX_ := Lib.hid (HX.out.below hq)
      have BB_ := Lib.hid (Below.next hq BB.out BB.out.size)
      have O1_ := Lib.hid (own_below O1.out hq)
      have Z1_ := Lib.hid (Z1.out.below hq)
      have OM2_ := Lib.hid (own_below OM2.out hq)
      have OH1_ := Lib.hid (own_below OH1.out hq)
      have Z2_ := Lib.hid (Z2.out.below hq)
      have OH2_ := Lib.hid (own_below OH2.out hq)
      have Z3_ := Lib.hid (Z3.out.below hq)
      clear K1 HX BB O1 Z1 OM2 OH1 Z2 OH2 Z3
      have K1 := Lib.hid K1_.out
      have HX := Lib.hid HX_.out
      have BB := Lib.hid BB_.out
      have O1 := Lib.hid O1_.out
      have Z1 := Lib.hid Z1_.out
      have OM2 := Lib.hid OM2_.out
      have OH1 := Lib.hid OH1_.out
      have Z2 := Lib.hid Z2_.out
      have OH2 := Lib.hid OH2_.out
      have Z3 := Lib.hid Z3_.out
      clear K1_ HX_ BB_ O1_ Z1_ OM2_ OH1_ Z2_ OH2_ Z3_
      clear hq
      obtain ⟨Z1_0, Z1_1, Z1_2, Z1_3, Z1_4⟩ := Bsx.cells Z1.out
      obtain ⟨Z2_0, Z2_1, Z2_2, Z2_3, Z2_4⟩ := Bsx.cells Z2.out
      obtain ⟨Z3_0, Z3_1, Z3_2, Z3_3, Z3_4⟩ := Bsx.cells Z3.out
      go_wp2_with fail
      clear Z1_0 Z1_1 Z1_2 Z1_3 Z1_4 Z2_0 Z2_1 Z2_2 Z2_3 Z2_4 Z3_0 Z3_1 Z3_2 Z3_3 Z3_4
      refine (IsSheet_any p s A c L w17 (Mem.of_own O1.out) (by omega)).mono ?_
      rintro e w18 ⟨he, hq⟩
      rw [HB0.out] at he
      subst he
      have K1_ := Lib.hid (K1.out.below hq)
      have HX_ := Lib.hid (HX.out.below hq)
      have BB_ := Lib.hid (Below.next hq BB.out BB.out.size)
      have O1_ := Lib.hid (own_below O1.out hq)
      have Z1_ := Lib.hid (Z1.out.below hq)
      have OM2_ := Lib.hid (own_below OM2.out hq)
      have OH1_ := Lib.hid (own_below OH1.out hq)
      have Z2_ := Lib.hid (Z2.out.below hq)
      have OH2_ := Lib.hid (own_below OH2.out hq)
      have Z3_ := Lib.hid (Z3.out.below hq)
      clear K1 HX BB O1 Z1 OM2 OH1 Z2 OH2 Z3
      have K1 := Lib.hid K1_.out
      have HX := Lib.hid HX_.out
      have BB := Lib.hid BB_.out
      have O1 := Lib.hid O1_.out
      have Z1 := Lib.hid Z1_.out
      have OM2 := Lib.hid OM2_.out
      have OH1 := Lib.hid OH1_.out
      have Z2 := Lib.hid Z2_.out
      have OH2 := Lib.hid OH2_.out
      have Z3 := Lib.hid Z3_.out
      clear K1_ HX_ BB_ O1_ Z1_ OM2_ OH1_ Z2_ OH2_ Z3_
      clear hq
      obtain ⟨Z1_0, Z1_1, Z1_2, Z1_3, Z1_4⟩ := Bsx.cells Z1.out
      obtain ⟨Z2_0, Z2_1, Z2_2, Z2_3, Z2_4⟩ := Bsx.cells Z2.out
      obtain ⟨Z3_0, Z3_1, Z3_2, Z3_3, Z3_4⟩ := Bsx.cells Z3.out
      go_wp2_with fail
      clear Z1_0 Z1_1 Z1_2 Z1_3 Z1_4 Z2_0 Z2_1 Z2_2 Z2_3 Z2_4 Z3_0 Z3_1 Z3_2 Z3_3 Z3_4
      go_meet
      exact ⟨rfl, BB.out, K1, HX, O1, Z1, OM2, OH1, Z2, OH2, Z3⟩
  case rest =>
    obtain ⟨rfl, hB, hK, hX, h1, h2, h3, h4, h5, h6, h7⟩ := hcut
    clear BB K1 HX O1 Z1 OM1 OM2 OH1 Z2 OH2 Z3
    have BB := Lib.hid hB
    have K1 := hK
    have HX := hX
    have O1 := h1
    have Z1 := h2
    have OM2 := h3
    have OH1 := h4
    have Z2 := h5
    have OH2 := h6
    have Z3 := h7
    clear hB hK hX h1 h2 h3 h4 h5 h6 h7
    go_upto_if 167 with (fail)
    go_cut [] from 168 to 325 (fun wx => Below W.heap.size W wx ∧ Hid (code wx A1 L1) ∧ Hid (Mxl wx mx))
    case first => as_aux_lemma =>
      cases b0
      · go_wp2
        go_meet
        exact ⟨BB.out, K1, HX⟩
      have HF := Lib.hid (ft_of HB0.out HTX.out HMV.out HP2.out HS2.out HV2.out HLO.out)
      have h8 := HF.out.l8
      obtain ⟨tx, htx⟩ : ∃ x, ldV p s L = x := ⟨_, rfl⟩
      have HLD := Lib.hid htx
      have HLD2 := Lib.hid (HF.out.ld.trans htx)
      have HO2 := Lib.hid HF.out.ok2
      clear htx HTX HMV HP2 HS2 HV2 HLO HLK
      go_wp2_with fail
      refine ((impl_ParseSheet_any T HF.out.tl mx wc HX.out).mono (fun _ _ h => h.of HB0.out HF.out.tx)).mono ?_
      rintro e w19 ⟨Ab, cb, rfl, hob, hq⟩
      have BB_ := Lib.hid (Below.next hq BB.out BB.out.size)
      have K1_ := Lib.hid (K1.out.below hq)
      have HX_ := Lib.hid (HX.out.below hq)
      have O1_ := Lib.hid (own_below O1.out hq)
      have Z1_ := Lib.hid (Z1.out.below hq)
      have OM2_ := Lib.hid (own_below OM2.out hq)
      have OH1_ := Lib.hid (own_below OH1.out hq)
      have Z2_ := Lib.hid (Z2.out.below hq)
      have OH2_ := Lib.hid (own_below OH2.out hq)
      have Z3_ := Lib.hid (Z3.out.below hq)
      clear BB K1 HX O1 Z1 OM2 OH1 Z2 OH2 Z3
      have BB := Lib.hid BB_.out
      have K1 := Lib.hid K1_.out
      have HX := Lib.hid HX_.out
      have O1 := Lib.hid O1_.out
      have Z1 := Lib.hid Z1_.out
      have OM2 := Lib.hid OM2_.out
      have OH1 := Lib.hid OH1_.out
      have Z2 := Lib.hid Z2_.out
      have OH2 := Lib.hid OH2_.out
      have Z3 := Lib.hid Z3_.out
      clear BB_ K1_ HX_ O1_ Z1_ OM2_ OH1_ Z2_ OH2_ Z3_
      have OB := Lib.hid (hob)
      clear hq hob
      have Z6 := Lib.hid (Bsx.new w19 p s Ab L.length cb)
      have hq : Below w19.heap.size w19 (w19.alloc (.cells #[.int .i64 p, .int .i64 s.x, .int .i64 s.y, .slice Ab L.length cb] 28)) := (Below.refl _ _).alloc (Nat.le_refl _) _
      have BB_ := Lib.hid (Below.next hq BB.out BB.out.size)
      have K1_ := Lib.hid (K1.out.below hq)
      have HX_ := Lib.hid (HX.out.below hq)
      have O1_ := Lib.hid (own_below O1.out hq)
      have Z1_ := Lib.hid (Z1.out.below hq)
      have OM2_ := Lib.hid (own_below OM2.out hq)
      have OH1_ := Lib.hid (own_below OH1.out hq)
      have Z2_ := Lib.hid (Z2.out.below hq)
      have OH2_ := Lib.hid (own_below OH2.out hq)
      have Z3_ := Lib.hid (Z3.out.below hq)
      have OB_ := Lib.hid (own_below OB.out hq)
      clear BB K1 HX O1 Z1 OM2 OH1 Z2 OH2 Z3 OB
      have BB := Lib.hid BB_.out
      have K1 := Lib.hid K1_.out
      have HX := Lib.hid HX_.out
      have O1 := Lib.hid O1_.out
      have Z1 := Lib.hid Z1_.out
      have OM2 := Lib.hid OM2_.out
      have OH1 := Lib.hid OH1_.out
      have Z2 := Lib.hid Z2_.out
      have OH2 := Lib.hid OH2_.out
      have Z3 := Lib.hid Z3_.out
      have OB := Lib.hid OB_.out
      clear BB_ K1_ HX_ O1_ Z1_ OM2_ OH1_ Z2_ OH2_ Z3_ OB_
      clear hq
      obtain ⟨Z1_0, Z1_1, Z1_2, Z1_3, Z1_4⟩ := Bsx.cells Z1.out
      obtain ⟨Z2_0, Z2_1, Z2_2, Z2_3, Z2_4⟩ := Bsx.cells Z2.out
      obtain ⟨Z3_0, Z3_1, Z3_2, Z3_3, Z3_4⟩ := Bsx.cells Z3.out
      go_wp2_with fail
      clear Z1_0 Z1_1 Z1_2 Z1_3 Z1_4 Z2_0 Z2_1 Z2_2 Z2_3 Z2_4 Z3_0 Z3_1 Z3_2 Z3_3 Z3_4
      generalize w19.alloc (.cells #[.int .i64 p, .int .i64 s.x, .int .i64 s.y, .slice Ab L.length cb] 28) = w20 at *
      generalize w19.heap.size = g6 at *
      refine (impl_LeadsTo_any p s A c L w20 (Mem.of_own O1.out) (by omega)).mono ?_
      rintro e w21 ⟨he, hq⟩
      rw [HLD.out, HB0.out] at he
      subst he
      have BB_ := Lib.hid (Below.next hq BB.out BB.out.size)
      have K1_ := Lib.hid (K1.out.below hq)
      have HX_ := Lib.hid (HX.out.below hq)
      have O1_ := Lib.hid (own_below O1.out hq)
      have Z1_ := Lib.hid (Z1.out.below hq)
      have OM2_ := Lib.hid (own_below OM2.out hq)
      have OH1_ := Lib.hid (own_below OH1.out hq)
      have Z2_ := Lib.hid (Z2.out.below hq)
      have OH2_ := Lib.hid (own_below OH2.out hq)
      have Z3_ := Lib.hid (Z3.out.below hq)
      have OB_ := Lib.hid (own_below OB.out hq)
      have Z6_ := Lib.hid (Z6.out.below hq)
      clear BB K1 HX O1 Z1 OM2 OH1 Z2 OH2 Z3 OB Z6
      have BB := Lib.hid BB_.out
      have K1 := Lib.hid K1_.out
      have HX := Lib.hid HX_.out
      have O1 := Lib.hid O1_.out
      have Z1 := Lib.hid Z1_.out
      have OM2 := Lib.hid OM2_.out
      have OH1 := Lib.hid OH1_.out
      have Z2 := Lib.hid Z2_.out
      have OH2 := Lib.hid OH2_.out
      have Z3 := Lib.hid Z3_.out
      have OB := Lib.hid OB_.out
      have Z6 := Lib.hid Z6_.out
      clear BB_ K1_ HX_ O1_ Z1_ OM2_ OH1_ Z2_ OH2_ Z3_ OB_ Z6_
      clear hq
      have Z7 := Lib.hid (Bsp.new w21 tx)
      have hq : Below w21.heap.size w21 (w21.alloc (.cells #[.int .i64 tx.x, .int .i64 tx.y] 25)) := (Below.refl _ _).alloc (Nat.le_refl _) _
      have BB_ := Lib.hid (Below.next hq BB.out BB.out.size)
      have K1_ := Lib.hid (K1.out.below hq)
      have HX_ := Lib.hid (HX.out.below hq)
      have O1_ := Lib.hid (own_below O1.out hq)
      have Z1_ := Lib.hid (Z1.out.below hq)
      have OM2_ := Lib.hid (own_below OM2.out hq)
      have OH1_ := Lib.hid (own_below OH1.out hq)
      have Z2_ := Lib.hid (Z2.out.below hq)
      have OH2_ := Lib.hid (own_below OH2.out hq)
      have Z3_ := Lib.hid (Z3.out.below hq)
      have OB_ := Lib.hid (own_below OB.out hq)
      have Z6_ := Lib.hid (Z6.out.below hq)
      clear BB K1 HX O1 Z1 OM2 OH1 Z2 OH2 Z3 OB Z6
      have BB := Lib.hid BB_.out
      have K1 := Lib.hid K1_.out
      have HX := Lib.hid HX_.out
      have O1 := Lib.hid O1_.out
      have Z1 := Lib.hid Z1_.out
      have OM2 := Lib.hid OM2_.out
      have OH1 := Lib.hid OH1_.out
      have Z2 := Lib.hid Z2_.out
      have OH2 := Lib.hid OH2_.out
      have Z3 := Lib.hid Z3_.out
      have OB := Lib.hid OB_.out
      have Z6 := Lib.hid Z6_.out
      clear BB_ K1_ HX_ O1_ Z1_ OM2_ OH1_ Z2_ OH2_ Z3_ OB_ Z6_
      clear hq
      obtain ⟨Z1_0, Z1_1, Z1_2, Z1_3, Z1_4⟩ := Bsx.cells Z1.out
      obtain ⟨Z2_0, Z2_1, Z2_2, Z2_3, Z2_4⟩ := Bsx.cells Z2.out
      obtain ⟨Z3_0, Z3_1, Z3_2, Z3_3, Z3_4⟩ := Bsx.cells Z3.out
      obtain ⟨Z6_0, Z6_1, Z6_2, Z6_3, Z6_4⟩ := Bsx.cells Z6.out
      go_wp2_with fail
      clear Z1_0 Z1_1 Z1_2 Z1_3 Z1_4 Z2_0 Z2_1 Z2_2 Z2_3 Z2_4 Z3_0 Z3_1 Z3_2 Z3_3 Z3_4 Z6_0 Z6_1 Z6_2 Z6_3 Z6_4
      generalize w21.alloc (.cells #[.int .i64 tx.x, .int .i64 tx.y] 25) = w22 at *
      generalize w21.heap.size = g7 at *
      refine (impl_LeadsTo_any P2 S2 Ah ch V w22 (Mem.of_own OH1.out) (by omega)).mono ?_
      rintro e w23 ⟨he, hq⟩
      rw [HLD2.out, HO2.out] at he
      subst he
      have BB_ := Lib.hid (Below.next hq BB.out BB.out.size)
      have K1_ := Lib.hid (K1.out.below hq)
      have HX_ := Lib.hid (HX.out.below hq)
      have O1_ := Lib.hid (own_below O1.out hq)
      have Z1_ := Lib.hid (Z1.out.below hq)
      have OM2_ := Lib.hid (own_below OM2.out hq)
      have OH1_ := Lib.hid (own_below OH1.out hq)
      have Z2_ := Lib.hid (Z2.out.below hq)
      have OH2_ := Lib.hid (own_below OH2.out hq)
      have Z3_ := Lib.hid (Z3.out.below hq)
      have OB_ := Lib.hid (own_below OB.out hq)
      have Z6_ := Lib.hid (Z6.out.below hq)
      have Z7_ := Lib.hid (Z7.out.below hq)
      clear BB K1 HX O1 Z1 OM2 OH1 Z2 OH2 Z3 OB Z6 Z7
      have BB := Lib.hid BB_.out
      have K1 := Lib.hid K1_.out
      have HX := Lib.hid HX_.out
      have O1 := Lib.hid O1_.out
      have Z1 := Lib.hid Z1_.out
      have OM2 := Lib.hid OM2_.out
      have OH1 := Lib.hid OH1_.out
      have Z2 := Lib.hid Z2_.out
      have OH2 := Lib.hid OH2_.out
      have Z3 := Lib.hid Z3_.out
      have OB := Lib.hid OB_.out
      have Z6 := Lib.hid Z6_.out
      have Z7 := Lib.hid Z7_.out
      clear BB_ K1_ HX_ O1_ Z1_ OM2_ OH1_ Z2_ OH2_ Z3_ OB_ Z6_ Z7_
      clear hq
      have Z8 := Lib.hid (Bsp.new w23 tx)
      have hq : Below w23.heap.size w23 (w23.alloc (.cells #[.int .i64 tx.x, .int .i64 tx.y] 25)) := (Below.refl _ _).alloc (Nat.le_refl _) _
      have BB_ := Lib.hid (Below.next hq BB.out BB.out.size)
      have K1_ := Lib.hid (K1.out.below hq)
      have HX_ := Lib.hid (HX.out.below hq)
      have O1_ := Lib.hid (own_below O1.out hq)
      have Z1_ := Lib.hid (Z1.out.below hq)
      have OM2_ := Lib.hid (own_below OM2.out hq)
      have OH1_ := Lib.hid (own_below OH1.out hq)
      have Z2_ := Lib.hid (Z2.out.below hq)
      have OH2_ := Lib.hid (own_below OH2.out hq)
      have Z3_ := Lib.hid (Z3.out.below hq)
      have OB_ := Lib.hid (own_below OB.out hq)
      have Z6_ := Lib.hid (Z6.out.below hq)
      have Z7_ := Lib.hid (Z7.out.below hq)
      clear BB K1 HX O1 Z1 OM2 OH1 Z2 OH2 Z3 OB Z6 Z7
      have BB := Lib.hid BB_.out
      have K1 := Lib.hid K1_.out
      have HX := Lib.hid HX_.out
      have O1 := Lib.hid O1_.out
      have Z1 := Lib.hid Z1_.out
      have OM2 := Lib.hid OM2_.out
      have OH1 := Lib.hid OH1_.out
      have Z2 := Lib.hid Z2_.out
      have OH2 := Lib.hid OH2_.out
      have Z3 := Lib.hid Z3_.out
      have OB := Lib.hid OB_.out
      have Z6 := Lib.hid Z6_.out
      have Z7 := Lib.hid Z7_.out
      clear BB_ K1_ HX_ O1_ Z1_ OM2_ OH1_ Z2_ OH2_ Z3_ OB_ Z6_ Z7_
      clear hq
      obtain ⟨Z1_0, Z1_1, Z1_2, Z1_3, Z1_4⟩ := Bsx.cells Z1.out
      obtain ⟨Z2_0, Z2_1, Z2_2, Z2_3, Z2_4⟩ := Bsx.cells Z2.out
      obtain ⟨Z3_0, Z3_1, Z3_2, Z3_3, Z3_4⟩ := Bsx.cells Z3.out
      obtain ⟨Z6_0, Z6_1, Z6_2, Z6_3, Z6_4⟩ := Bsx.cells Z6.out
      obtain ⟨Z7_0, Z7_1, Z7_2⟩ := Bsp.cells Z7.out
      go_wp2_with fail
      clear Z1_0 Z1_1 Z1_2 Z1_3 Z1_4 Z2_0 Z2_1 Z2_2 Z2_3 Z2_4 Z3_0 Z3_1 Z3_2 Z3_3 Z3_4 Z6_0 Z6_1 Z6_2 Z6_3 Z6_4 Z7_0 Z7_1 Z7_2
      generalize w23.alloc (.cells #[.int .i64 tx.x, .int .i64 tx.y] 25) = w24 at *
      generalize w23.heap.size = g8 at *
      refine (pSameSheet_same p s Ab A cb c L w24 (Mem.of_own OB.out) (Mem.of_own O1.out) (by omega)).mono ?_
      rintro e w25 ⟨rfl, hq⟩
      have BB_ := Lib.hid (Below.next hq BB.out BB.out.size)
      have K1_ := Lib.hid (K1.out.below hq)
      have HX_ := Lib.hid (HX.out.below hq)
      have O1_ := Lib.hid (own_below O1.out hq)
      have Z1_ := Lib.hid (Z1.out.below hq)
      have OM2_ := Lib.hid (own_below OM2.out hq)
      have OH1_ := Lib.hid (own_below OH1.out hq)
      have Z2_ := Lib.hid (Z2.out.below hq)
      have OH2_ := Lib.hid (own_below OH2.out hq)
      have Z3_ := Lib.hid (Z3.out.below hq)
      have OB_ := Lib.hid (own_below OB.out hq)
      have Z6_ := Lib.hid (Z6.out.below hq)
      have Z7_ := Lib.hid (Z7.out.below hq)
      have Z8_ := Lib.hid (Z8.out.below hq)
      clear BB K1 HX O1 Z1 OM2 OH1 Z2 OH2 Z3 OB Z6 Z7 Z8
      have BB := Lib.hid BB_.out
      have K1 := Lib.hid K1_.out
      have HX := Lib.hid HX_.out
      have O1 := Lib.hid O1_.out
      have Z1 := Lib.hid Z1_.out
      have OM2 := Lib.hid OM2_.out
      have OH1 := Lib.hid OH1_.out
      have Z2 := Lib.hid Z2_.out
      have OH2 := Lib.hid OH2_.out
      have Z3 := Lib.hid Z3_.out
      have OB := Lib.hid OB_.out
      have Z6 := Lib.hid Z6_.out
      have Z7 := Lib.hid Z7_.out
      have Z8 := Lib.hid Z8_.out
      clear BB_ K1_ HX_ O1_ Z1_ OM2_ OH1_ Z2_ OH2_ Z3_ OB_ Z6_ Z7_ Z8_
      clear hq
      clear OB Z6
      have hml1 : ((MV.length : Int) != (L.length : Int)) = false := by have := HF.out.ml; simp [this]
      have hvl1 : decide (L.length < V.length) = false := decide_eq_false (by have := HF.out.vl; omega)
      have hvl2 : ¬ (L.length < V.length) := by have := HF.out.vl; omega
      obtain ⟨Z1_0, Z1_1, Z1_2, Z1_3, Z1_4⟩ := Bsx.cells Z1.out
      obtain ⟨Z2_0, Z2_1, Z2_2, Z2_3, Z2_4⟩ := Bsx.cells Z2.out
      obtain ⟨Z3_0, Z3_1, Z3_2, Z3_3, Z3_4⟩ := Bsx.cells Z3.out
      obtain ⟨Z7_0, Z7_1, Z7_2⟩ := Bsp.cells Z7.out
      obtain ⟨Z8_0, Z8_1, Z8_2⟩ := Bsp.cells Z8.out
      go_wp2_with fail
      clear Z1_0 Z1_1 Z1_2 Z1_3 Z1_4 Z2_0 Z2_1 Z2_2 Z2_3 Z2_4 Z3_0 Z3_1 Z3_2 Z3_3 Z3_4 Z7_0 Z7_1 Z7_2 Z8_0 Z8_1 Z8_2
      (try simp only [hvl1])
      clear hvl1 hvl2
      go_loopg [28, 224] L.length (fun left tv iv wr => ∃ (k : Nat) (u : Int), left + k = L.length ∧ iv = .int .i64 (k : Int) ∧ tv = .int .i64 u ∧ Hid (sumr (L.take k) = u) ∧ Below w25.heap.size w25 wr)
      case atStart => exact ⟨0, 0, by omega, rfl, rfl, Lib.hid (by simp [sumr]), Below.refl _ _⟩
      case round =>
        obtain ⟨k, u, hk, rfl, rfl, HU, hq⟩ := hrel
        have HBR_ := Lib.hid hq
        have BB_ := Lib.hid (Below.next hq BB.out BB.out.size)
        have K1_ := Lib.hid (K1.out.below hq)
        have HX_ := Lib.hid (HX.out.below hq)
        have O1_ := Lib.hid (own_below O1.out hq)
        have Z1_ := Lib.hid (Z1.out.below hq)
        have OM2_ := Lib.hid (own_below OM2.out hq)
        have OH1_ := Lib.hid (own_below OH1.out hq)
        have Z2_ := Lib.hid (Z2.out.below hq)
        have OH2_ := Lib.hid (own_below OH2.out hq)
        have Z3_ := Lib.hid (Z3.out.below hq)
        have Z7_ := Lib.hid (Z7.out.below hq)
        have Z8_ := Lib.hid (Z8.out.below hq)
        clear BB K1 HX O1 Z1 OM2 OH1 Z2 OH2 Z3 Z7 Z8
        have BB := Lib.hid BB_.out
        have K1 := Lib.hid K1_.out
        have HX := Lib.hid HX_.out
        have O1 := Lib.hid O1_.out
        have Z1 := Lib.hid Z1_.out
        have OM2 := Lib.hid OM2_.out
        have OH1 := Lib.hid OH1_.out
        have Z2 := Lib.hid Z2_.out
        have OH2 := Lib.hid OH2_.out
        have Z3 := Lib.hid Z3_.out
        have Z7 := Lib.hid Z7_.out
        have Z8 := Lib.hid Z8_.out
        clear BB_ K1_ HX_ O1_ Z1_ OM2_ OH1_ Z2_ OH2_ Z3_ Z7_ Z8_
        have HBR := Lib.hid HBR_.out
        clear HBR_ hq
        by_cases hlt : k < L.length
        ·
          obtain ⟨r, hr⟩ := some_of_lt hlt
          obtain ⟨bq, off, eA_, e0, e1, e2⟩ := (Mem.of_own O1.out).row hr
          subst eA_
          have hli : (k : Int) < (L.length : Int) := by omega
          have hgk : 0 < gk := by omega
          have hbd := sumr_bd HF.out.rl k
          have hbd2 := sumr_bd HF.out.rl (k + 1)
          have HSA := Lib.hid (HF.out.sa k r hr)
          have hst := sumr_take hr
          rw [HU.out] at hbd hst
          obtain ⟨v, hv⟩ : ∃ x, sumr (L.take (k + 1)) = x := ⟨_, rfl⟩
          have HV := Lib.hid hv
          rw [hv] at hbd2 hst HSA
          have hsw : IntKind.i64.wrap (u + r.c) = v := by rw [IntWalk.i64_in _ (by omega), hst]
          clear hv hst hr
          have Z9 := Lib.hid (Bro.new wr r)
          have hq : Below wr.heap.size wr (wr.alloc (.cells #[.int .i64 r.c, .int .i64 r.t.x, .int .i64 r.t.y] 46)) := (Below.refl _ _).alloc (Nat.le_refl _) _
          have BB_ := Lib.hid (Below.next hq BB.out BB.out.size)
          have K1_ := Lib.hid (K1.out.below hq)
          have HX_ := Lib.hid (HX.out.below hq)
          have O1_ := Lib.hid (own_below O1.out hq)
          have Z1_ := Lib.hid (Z1.out.below hq)
          have OM2_ := Lib.hid (own_below OM2.out hq)
          have OH1_ := Lib.hid (own_below OH1.out hq)
          have Z2_ := Lib.hid (Z2.out.below hq)
          have OH2_ := Lib.hid (own_below OH2.out hq)
          have Z3_ := Lib.hid (Z3.out.below hq)
          have Z7_ := Lib.hid (Z7.out.below hq)
          have Z8_ := Lib.hid (Z8.out.below hq)
          have HBR_ := Lib.hid (Below.next hq HBR.out HBR.out.size)
          clear BB K1 HX O1 Z1 OM2 OH1 Z2 OH2 Z3 Z7 Z8 HBR
          have BB := Lib.hid BB_.out
          have K1 := Lib.hid K1_.out
          have HX := Lib.hid HX_.out
          have O1 := Lib.hid O1_.out
          have Z1 := Lib.hid Z1_.out
          have OM2 := Lib.hid OM2_.out
          have OH1 := Lib.hid OH1_.out
          have Z2 := Lib.hid Z2_.out
          have OH2 := Lib.hid OH2_.out
          have Z3 := Lib.hid Z3_.out
          have Z7 := Lib.hid Z7_.out
          have Z8 := Lib.hid Z8_.out
          have HBR := Lib.hid HBR_.out
          clear BB_ K1_ HX_ O1_ Z1_ OM2_ OH1_ Z2_ OH2_ Z3_ Z7_ Z8_ HBR_
          clear hq
          obtain ⟨Z1_0, Z1_1, Z1_2, Z1_3, Z1_4⟩ := Bsx.cells Z1.out
          obtain ⟨Z2_0, Z2_1, Z2_2, Z2_3, Z2_4⟩ := Bsx.cells Z2.out
          obtain ⟨Z3_0, Z3_1, Z3_2, Z3_3, Z3_4⟩ := Bsx.cells Z3.out
          obtain ⟨Z7_0, Z7_1, Z7_2⟩ := Bsp.cells Z7.out
          obtain ⟨Z8_0, Z8_1, Z8_2⟩ := Bsp.cells Z8.out
          go_wp2_with fail
          clear Z1_0 Z1_1 Z1_2 Z1_3 Z1_4 Z2_0 Z2_1 Z2_2 Z2_3 Z2_4 Z3_0 Z3_1 Z3_2 Z3_3 Z3_4 Z7_0 Z7_1 Z7_2 Z8_0 Z8_1 Z8_2
          generalize wr.alloc (.cells #[.int .i64 r.c, .int .i64 r.t.x, .int .i64 r.t.y] 46) = w26 at *
          generalize wr.heap.size = g9 at *
          clear e0 e1 e2
          refine (impl_SpotAfter_any P2 S2 Ah ch V v w26 (Mem.of_own OH1.out) (by omega) (by unfold okInt; omega)).mono ?_
          rintro e w27 ⟨he, hq⟩
          rw [HSA.out.1, HSA.out.2] at he
          subst he
          have BB_ := Lib.hid (Below.next hq BB.out BB.out.size)
          have K1_ := Lib.hid (K1.out.below hq)
          have HX_ := Lib.hid (HX.out.below hq)
          have O1_ := Lib.hid (own_below O1.out hq)
          have Z1_ := Lib.hid (Z1.out.below hq)
          have OM2_ := Lib.hid (own_below OM2.out hq)
          have OH1_ := Lib.hid (own_below OH1.out hq)
          have Z2_ := Lib.hid (Z2.out.below hq)
          have OH2_ := Lib.hid (own_below OH2.out hq)
          have Z3_ := Lib.hid (Z3.out.below hq)
          have Z7_ := Lib.hid (Z7.out.below hq)
          have Z8_ := Lib.hid (Z8.out.below hq)
          have HBR_ := Lib.hid (Below.next hq HBR.out HBR.out.size)
          have Z9_ := Lib.hid (Z9.out.below hq)
          clear BB K1 HX O1 Z1 OM2 OH1 Z2 OH2 Z3 Z7 Z8 HBR Z9
          have BB := Lib.hid BB_.out
          have K1 := Lib.hid K1_.out
          have HX := Lib.hid HX_.out
          have O1 := Lib.hid O1_.out
          have Z1 := Lib.hid Z1_.out
          have OM2 := Lib.hid OM2_.out
          have OH1 := Lib.hid OH1_.out
          have Z2 := Lib.hid Z2_.out
          have OH2 := Lib.hid OH2_.out
          have Z3 := Lib.hid Z3_.out
          have Z7 := Lib.hid Z7_.out
          have Z8 := Lib.hid Z8_.out
          have HBR := Lib.hid HBR_.out
          have Z9 := Lib.hid Z9_.out
          clear BB_ K1_ HX_ O1_ Z1_ OM2_ OH1_ Z2_ OH2_ Z3_ Z7_ Z8_ HBR_ Z9_
          clear hq
          have Z10 := Lib.hid (Bsp.new w27 r.t)
          have hq : Below w27.heap.size w27 (w27.alloc (.cells #[.int .i64 r.t.x, .int .i64 r.t.y] 25)) := (Below.refl _ _).alloc (Nat.le_refl _) _
          have BB_ := Lib.hid (Below.next hq BB.out BB.out.size)
          have K1_ := Lib.hid (K1.out.below hq)
          have HX_ := Lib.hid (HX.out.below hq)
          have O1_ := Lib.hid (own_below O1.out hq)
          have Z1_ := Lib.hid (Z1.out.below hq)
          have OM2_ := Lib.hid (own_below OM2.out hq)
          have OH1_ := Lib.hid (own_below OH1.out hq)
          have Z2_ := Lib.hid (Z2.out.below hq)
          have OH2_ := Lib.hid (own_below OH2.out hq)
          have Z3_ := Lib.hid (Z3.out.below hq)
          have Z7_ := Lib.hid (Z7.out.below hq)
          have Z8_ := Lib.hid (Z8.out.below hq)
          have HBR_ := Lib.hid (Below.next hq HBR.out HBR.out.size)
          have Z9_ := Lib.hid (Z9.out.below hq)
          clear BB K1 HX O1 Z1 OM2 OH1 Z2 OH2 Z3 Z7 Z8 HBR Z9
          have BB := Lib.hid BB_.out
          have K1 := Lib.hid K1_.out
          have HX := Lib.hid HX_.out
          have O1 := Lib.hid O1_.out
          have Z1 := Lib.hid Z1_.out
          have OM2 := Lib.hid OM2_.out
          have OH1 := Lib.hid OH1_.out
          have Z2 := Lib.hid Z2_.out
          have OH2 := Lib.hid OH2_.out
          have Z3 := Lib.hid Z3_.out
          have Z7 := Lib.hid Z7_.out
          have Z8 := Lib.hid Z8_.out
          have HBR := Lib.hid HBR_.out
          have Z9 := Lib.hid Z9_.out
          clear BB_ K1_ HX_ O1_ Z1_ OM2_ OH1_ Z2_ OH2_ Z3_ Z7_ Z8_ HBR_ Z9_
          clear hq
          obtain ⟨Z1_0, Z1_1, Z1_2, Z1_3, Z1_4⟩ := Bsx.cells Z1.out
          obtain ⟨Z2_0, Z2_1, Z2_2, Z2_3, Z2_4⟩ := Bsx.cells Z2.out
          obtain ⟨Z3_0, Z3_1, Z3_2, Z3_3, Z3_4⟩ := Bsx.cells Z3.out
          obtain ⟨Z7_0, Z7_1, Z7_2⟩ := Bsp.cells Z7.out
          obtain ⟨Z8_0, Z8_1, Z8_2⟩ := Bsp.cells Z8.out
          obtain ⟨Z9_0, Z9_1, Z9_2, Z9_3⟩ := Bro.cells Z9.out
          go_wp2_with fail
          clear Z1_0 Z1_1 Z1_2 Z1_3 Z1_4 Z2_0 Z2_1 Z2_2 Z2_3 Z2_4 Z3_0 Z3_1 Z3_2 Z3_3 Z3_4 Z7_0 Z7_1 Z7_2 Z8_0 Z8_1 Z8_2 Z9_0 Z9_1 Z9_2 Z9_3
          generalize w27.alloc (.cells #[.int .i64 r.t.x, .int .i64 r.t.y] 25) = w28 at *
          generalize w27.heap.size = g10 at *
          go_roundg (gk - 1)
          case measure => omega
          case rel => exact ⟨k + 1, v, by omega, by go_num, rfl, HV, HBR.out⟩
        obtain rfl : k = L.length := by omega
        have HU1 := Lib.hid (show sumr L = u by have := HU.out; rwa [List.take_length] at this)
        clear HU HBR hlt hk
        obtain ⟨wS, hwS⟩ : ∃ x, x = wr := ⟨_, rfl⟩
        subst hwS
        obtain ⟨Z1_0, Z1_1, Z1_2, Z1_3, Z1_4⟩ := Bsx.cells Z1.out
        obtain ⟨Z2_0, Z2_1, Z2_2, Z2_3, Z2_4⟩ := Bsx.cells Z2.out
        obtain ⟨Z3_0, Z3_1, Z3_2, Z3_3, Z3_4⟩ := Bsx.cells Z3.out
        obtain ⟨Z7_0, Z7_1, Z7_2⟩ := Bsp.cells Z7.out
        obtain ⟨Z8_0, Z8_1, Z8_2⟩ := Bsp.cells Z8.out
        go_wp2_with fail
        clear Z1_0 Z1_1 Z1_2 Z1_3 Z1_4 Z2_0 Z2_1 Z2_2 Z2_3 Z2_4 Z3_0 Z3_1 Z3_2 Z3_3 Z3_4 Z7_0 Z7_1 Z7_2 Z8_0 Z8_1 Z8_2
        go_loopg [29, 250] V.length (fun left ov iv wr => ∃ (k : Nat) (u : Int), left + k = V.length ∧ iv = .int .i64 (k : Int) ∧ ov = .int .i64 u ∧ Hid (sumr (V.take k) = u) ∧ Below wS.heap.size wS wr)
        case atStart => exact ⟨0, 0, by omega, rfl, rfl, Lib.hid (by simp [sumr]), Below.refl _ _⟩
        case round =>
          obtain ⟨k, v, hk, rfl, rfl, HV, hq⟩ := hrel
          have HBR_ := Lib.hid hq
          have BB_ := Lib.hid (Below.next hq BB.out BB.out.size)
          have K1_ := Lib.hid (K1.out.below hq)
          have HX_ := Lib.hid (HX.out.below hq)
          have O1_ := Lib.hid (own_below O1.out hq)
          have Z1_ := Lib.hid (Z1.out.below hq)
          have OM2_ := Lib.hid (own_below OM2.out hq)
          have OH1_ := Lib.hid (own_below OH1.out hq)
          have Z2_ := Lib.hid (Z2.out.below hq)
          have OH2_ := Lib.hid (own_below OH2.out hq)
          have Z3_ := Lib.hid (Z3.out.below hq)
          have Z7_ := Lib.hid (Z7.out.below hq)
          have Z8_ := Lib.hid (Z8.out.below hq)
          clear BB K1 HX O1 Z1 OM2 OH1 Z2 OH2 Z3 Z7 Z8
          have BB := Lib.hid BB_.out
          have K1 := Lib.hid K1_.out
          have HX := Lib.hid HX_.out
          have O1 := Lib.hid O1_.out
          have Z1 := Lib.hid Z1_.out
          have OM2 := Lib.hid OM2_.out
          have OH1 := Lib.hid OH1_.out
          have Z2 := Lib.hid Z2_.out
          have OH2 := Lib.hid OH2_.out
          have Z3 := Lib.hid Z3_.out
          have Z7 := Lib.hid Z7_.out
          have Z8 := Lib.hid Z8_.out
          clear BB_ K1_ HX_ O1_ Z1_ OM2_ OH1_ Z2_ OH2_ Z3_ Z7_ Z8_
          have HBR := Lib.hid HBR_.out
          clear HBR_ hq
          by_cases hlt : k < V.length
          ·
            obtain ⟨r, hr⟩ := some_of_lt hlt
            obtain ⟨bq, off, eA_, e0, e1, e2⟩ := (Mem.of_own OH2.out).row hr
            subst eA_
            have hli : (k : Int) < (V.length : Int) := by omega
            have hgk : 0 < gk := by omega
            have hbd := sumr_bd HF.out.rv k
            have hbd2 := sumr_bd HF.out.rv (k + 1)
            have hst := sumr_take hr
            rw [HV.out] at hbd hst
            obtain ⟨v', hv⟩ : ∃ x, sumr (V.take (k + 1)) = x := ⟨_, rfl⟩
            have HV' := Lib.hid hv
            rw [hv] at hbd2 hst
            have hsw : IntKind.i64.wrap (v + r.c) = v' := by rw [IntWalk.i64_in _ (by omega), hst]
            clear hv hst hr
            have Z9 := Lib.hid (Bro.new wr r)
            have hq : Below wr.heap.size wr (wr.alloc (.cells #[.int .i64 r.c, .int .i64 r.t.x, .int .i64 r.t.y] 46)) := (Below.refl _ _).alloc (Nat.le_refl _) _
            have BB_ := Lib.hid (Below.next hq BB.out BB.out.size)
            have K1_ := Lib.hid (K1.out.below hq)
            have HX_ := Lib.hid (HX.out.below hq)
            have O1_ := Lib.hid (own_below O1.out hq)
            have Z1_ := Lib.hid (Z1.out.below hq)
            have OM2_ := Lib.hid (own_below OM2.out hq)
            have OH1_ := Lib.hid (own_below OH1.out hq)
            have Z2_ := Lib.hid (Z2.out.below hq)
            have OH2_ := Lib.hid (own_below OH2.out hq)
            have Z3_ := Lib.hid (Z3.out.below hq)
            have Z7_ := Lib.hid (Z7.out.below hq)
            have Z8_ := Lib.hid (Z8.out.below hq)
            have HBR_ := Lib.hid (Below.next hq HBR.out HBR.out.size)
            clear BB K1 HX O1 Z1 OM2 OH1 Z2 OH2 Z3 Z7 Z8 HBR
            have BB := Lib.hid BB_.out
            have K1 := Lib.hid K1_.out
            have HX := Lib.hid HX_.out
            have O1 := Lib.hid O1_.out
            have Z1 := Lib.hid Z1_.out
            have OM2 := Lib.hid OM2_.out
            have OH1 := Lib.hid OH1_.out
            have Z2 := Lib.hid Z2_.out
            have OH2 := Lib.hid OH2_.out
            have Z3 := Lib.hid Z3_.out
            have Z7 := Lib.hid Z7_.out
            have Z8 := Lib.hid Z8_.out
            have HBR := Lib.hid HBR_.out
            clear BB_ K1_ HX_ O1_ Z1_ OM2_ OH1_ Z2_ OH2_ Z3_ Z7_ Z8_ HBR_
            clear hq
            obtain ⟨Z1_0, Z1_1, Z1_2, Z1_3, Z1_4⟩ := Bsx.cells Z1.out
            obtain ⟨Z2_0, Z2_1, Z2_2, Z2_3, Z2_4⟩ := Bsx.cells Z2.out
            obtain ⟨Z3_0, Z3_1, Z3_2, Z3_3, Z3_4⟩ := Bsx.cells Z3.out
            obtain ⟨Z7_0, Z7_1, Z7_2⟩ := Bsp.cells Z7.out
            obtain ⟨Z8_0, Z8_1, Z8_2⟩ := Bsp.cells Z8.out
            go_wp2_with fail
            clear Z1_0 Z1_1 Z1_2 Z1_3 Z1_4 Z2_0 Z2_1 Z2_2 Z2_3 Z2_4 Z3_0 Z3_1 Z3_2 Z3_3 Z3_4 Z7_0 Z7_1 Z7_2 Z8_0 Z8_1 Z8_2
            generalize wr.alloc (.cells #[.int .i64 r.c, .int .i64 r.t.x, .int .i64 r.t.y] 46) = w29 at *
            generalize wr.heap.size = g9 at *
            clear e0 e1 e2
            go_roundg (gk - 1)
            case measure => omega
            case rel => exact ⟨k + 1, v', by omega, by go_num, rfl, HV', HBR.out⟩
          obtain rfl : k = V.length := by omega
          have HV1 := Lib.hid (show v = u by have := HV.out; rw [List.take_length] at this; rw [← this, ← HU1.out]; exact HF.out.su)
          obtain rfl := HV1.out
          clear HV HV1 HBR hlt hk
          obtain ⟨wT, hwT⟩ : ∃ x, x = wr := ⟨_, rfl⟩
          subst hwT
          obtain ⟨Z1_0, Z1_1, Z1_2, Z1_3, Z1_4⟩ := Bsx.cells Z1.out
          obtain ⟨Z2_0, Z2_1, Z2_2, Z2_3, Z2_4⟩ := Bsx.cells Z2.out
          obtain ⟨Z3_0, Z3_1, Z3_2, Z3_3, Z3_4⟩ := Bsx.cells Z3.out
          obtain ⟨Z7_0, Z7_1, Z7_2⟩ := Bsp.cells Z7.out
          obtain ⟨Z8_0, Z8_1, Z8_2⟩ := Bsp.cells Z8.out
          go_wp2_with fail
          clear Z1_0 Z1_1 Z1_2 Z1_3 Z1_4 Z2_0 Z2_1 Z2_2 Z2_3 Z2_4 Z3_0 Z3_1 Z3_2 Z3_3 Z3_4 Z7_0 Z7_1 Z7_2 Z8_0 Z8_1 Z8_2
          go_loopg [264] MV.length (fun left iv wr => ∃ k : Nat, left + k = MV.length ∧ iv = .int .i64 (k : Int) ∧ Below wT.heap.size wT wr)
          case atStart => exact ⟨0, by omega, rfl, Below.refl _ _⟩
          case round =>
            obtain ⟨k, hk, rfl, hq⟩ := hrel
            have HBR_ := Lib.hid hq
            have BB_ := Lib.hid (Below.next hq BB.out BB.out.size)
            have K1_ := Lib.hid (K1.out.below hq)
            have HX_ := Lib.hid (HX.out.below hq)
            have O1_ := Lib.hid (own_below O1.out hq)
            have Z1_ := Lib.hid (Z1.out.below hq)
            have OM2_ := Lib.hid (own_below OM2.out hq)
            have OH1_ := Lib.hid (own_below OH1.out hq)
            have Z2_ := Lib.hid (Z2.out.below hq)
            have OH2_ := Lib.hid (own_below OH2.out hq)
            have Z3_ := Lib.hid (Z3.out.below hq)
            have Z7_ := Lib.hid (Z7.out.below hq)
            have Z8_ := Lib.hid (Z8.out.below hq)
            clear BB K1 HX O1 Z1 OM2 OH1 Z2 OH2 Z3 Z7 Z8
            have BB := Lib.hid BB_.out
            have K1 := Lib.hid K1_.out
            have HX := Lib.hid HX_.out
            have O1 := Lib.hid O1_.out
            have Z1 := Lib.hid Z1_.out
            have OM2 := Lib.hid OM2_.out
            have OH1 := Lib.hid OH1_.out
            have Z2 := Lib.hid Z2_.out
            have OH2 := Lib.hid OH2_.out
            have Z3 := Lib.hid Z3_.out
            have Z7 := Lib.hid Z7_.out
            have Z8 := Lib.hid Z8_.out
            clear BB_ K1_ HX_ O1_ Z1_ OM2_ OH1_ Z2_ OH2_ Z3_ Z7_ Z8_
            have HBR := Lib.hid HBR_.out
            clear HBR_ hq
            by_cases hlt : k < MV.length
            ·
              obtain ⟨m, hm⟩ := some_of_lt hlt
              obtain ⟨bm, om, eA_, e0, e1, e2, e3, e4⟩ := (Mem.of_own OM2.out).move hm
              subst eA_
              have hli : (k : Int) < (MV.length : Int) := by omega
              have hgk : 0 < gk := by omega
              have HM := Lib.hid hm
              obtain ⟨j, n, hlo, hj8, hn, hd, hde⟩ := HF.out.lo k m hm
              have hjl := (List.getElem?_eq_some_iff.1 hn).1
              have HN := Lib.hid hn
              have hmv1 := HF.out.mv k m hm
              have hmv2 := HF.out.mv j n hn
              simp only [isMv, Bool.and_eq_true] at hmv1 hmv2
              have s1 : (isSp m.f && isSp m.t) = true := by rw [hmv1.1.1, hmv1.1.2]; rfl
              have s2 : (isSp n.f && isSp n.t) = true := by rw [hmv2.1.1, hmv2.1.2]; rfl
              obtain ⟨d1, hd1⟩ : ∃ x, sqV m.f m.t = x := ⟨_, rfl⟩
              obtain ⟨d2, hd2⟩ : ∃ x, sqV n.f n.t = x := ⟨_, rfl⟩
              have hd1' : sq m.f m.t = d1 := by rw [← hd1, sqV, if_pos s1]
              have hd2' : sq n.f n.t = d2 := by rw [← hd2, sqV, if_pos s2]
              rw [hd1', hd2'] at hd hde
              have HQ1 := Lib.hid (And.intro hd1 s1)
              have HQ2 := Lib.hid (And.intro hd2 s2)
              have HD := Lib.hid hd
              have HDE := Lib.hid hde
              clear hd1 hd2 hd1' hd2' hd hde s1 s2 hmv1 hmv2 hm hn
              subst hlo
              have Z11 := Lib.hid (Bmo.new wr m)
              have hq : Below wr.heap.size wr (wr.alloc (.cells #[.int .i64 m.f.x, .int .i64 m.f.y, .int .i64 m.t.x, .int .i64 m.t.y, .int .i64 m.c] 49)) := (Below.refl _ _).alloc (Nat.le_refl _) _
              have BB_ := Lib.hid (Below.next hq BB.out BB.out.size)
              have K1_ := Lib.hid (K1.out.below hq)
              have HX_ := Lib.hid (HX.out.below hq)
              have O1_ := Lib.hid (own_below O1.out hq)
              have Z1_ := Lib.hid (Z1.out.below hq)
              have OM2_ := Lib.hid (own_below OM2.out hq)
              have OH1_ := Lib.hid (own_below OH1.out hq)
              have Z2_ := Lib.hid (Z2.out.below hq)
              have OH2_ := Lib.hid (own_below OH2.out hq)
              have Z3_ := Lib.hid (Z3.out.below hq)
              have Z7_ := Lib.hid (Z7.out.below hq)
              have Z8_ := Lib.hid (Z8.out.below hq)
              have HBR_ := Lib.hid (Below.next hq HBR.out HBR.out.size)
              clear BB K1 HX O1 Z1 OM2 OH1 Z2 OH2 Z3 Z7 Z8 HBR
              have BB := Lib.hid BB_.out
              have K1 := Lib.hid K1_.out
              have HX := Lib.hid HX_.out
              have O1 := Lib.hid O1_.out
              have Z1 := Lib.hid Z1_.out
              have OM2 := Lib.hid OM2_.out
              have OH1 := Lib.hid OH1_.out
              have Z2 := Lib.hid Z2_.out
              have OH2 := Lib.hid OH2_.out
              have Z3 := Lib.hid Z3_.out
              have Z7 := Lib.hid Z7_.out
              have Z8 := Lib.hid Z8_.out
              have HBR := Lib.hid HBR_.out
              clear BB_ K1_ HX_ O1_ Z1_ OM2_ OH1_ Z2_ OH2_ Z3_ Z7_ Z8_ HBR_
              clear hq
              go_upto_region 39 with (fail)
              generalize wr.alloc (.cells #[.int .i64 m.f.x, .int .i64 m.f.y, .int .i64 m.t.x, .int .i64 m.t.y, .int .i64 m.c] 49) = w30 at *
              generalize wr.heap.size = g11 at *
              clear e0 e1 e2 e3 e4
              go_cut [281] from 269 to 281 (fun v wx => v = .bool false ∧ Below w30.heap.size w30 wx)
              case first =>
                by_cases hk0 : k = 0
                ·
                  have hgt : ¬ ((0 : Int) < (k : Int)) := by omega
                  have hgt2 : decide ((0 : Int) < (k : Int)) = false := decide_eq_false hgt
                  have hgt3 : ¬ (0 < k) := by omega
                  have hgt4 : decide (0 < k) = false := decide_eq_false hgt3
                  clear hk0
                  obtain ⟨Z1_0, Z1_1, Z1_2, Z1_3, Z1_4⟩ := Bsx.cells Z1.out
                  obtain ⟨Z2_0, Z2_1, Z2_2, Z2_3, Z2_4⟩ := Bsx.cells Z2.out
                  obtain ⟨Z3_0, Z3_1, Z3_2, Z3_3, Z3_4⟩ := Bsx.cells Z3.out
                  obtain ⟨Z7_0, Z7_1, Z7_2⟩ := Bsp.cells Z7.out
                  obtain ⟨Z8_0, Z8_1, Z8_2⟩ := Bsp.cells Z8.out
                  obtain ⟨Z11_0, Z11_1, Z11_2, Z11_3, Z11_4, Z11_5⟩ := Bmo.cells Z11.out
                  have q0_ := cell_regrown (w := w30) Z11_0
                  have q1_ := cell_regrown (w := w30) Z11_1
                  have q2_ := cell_regrown (w := w30) Z11_2
                  have q3_ := cell_regrown (w := w30) Z11_3
                  go_wp2
                  refine wp_region_quiet_below (by kernel_rfl) (by kernel_rfl) ?_
                  repeat (first | go_big_quiet_step (fail) | quiet_step (fail))
                  refine wpQuiet_nil ?_
                  intro _ hw'
                  obtain ⟨⟨dq, osq⟩, hw''⟩ := hw'
                  subst hw''
                  have hq := below_regrown w30 dq osq
                  clear q0_ q1_ q2_ q3_
                  generalize grow (redrawn w30 dq) osq = w31 at *
                  have HQA := Lib.hid hq
                  have BB_ := Lib.hid (Below.next hq BB.out BB.out.size)
                  have K1_ := Lib.hid (K1.out.below hq)
                  have HX_ := Lib.hid (HX.out.below hq)
                  have O1_ := Lib.hid (own_below O1.out hq)
                  have Z1_ := Lib.hid (Z1.out.below hq)
                  have OM2_ := Lib.hid (own_below OM2.out hq)
                  have OH1_ := Lib.hid (own_below OH1.out hq)
                  have Z2_ := Lib.hid (Z2.out.below hq)
                  have OH2_ := Lib.hid (own_below OH2.out hq)
                  have Z3_ := Lib.hid (Z3.out.below hq)
                  have Z7_ := Lib.hid (Z7.out.below hq)
                  have Z8_ := Lib.hid (Z8.out.below hq)
                  have HBR_ := Lib.hid (Below.next hq HBR.out HBR.out.size)
                  have Z11_ := Lib.hid (Z11.out.below hq)
                  clear BB K1 HX O1 Z1 OM2 OH1 Z2 OH2 Z3 Z7 Z8 HBR Z11
                  have BB := Lib.hid BB_.out
                  have K1 := Lib.hid K1_.out
                  have HX := Lib.hid HX_.out
                  have O1 := Lib.hid O1_.out
                  have Z1 := Lib.hid Z1_.out
                  have OM2 := Lib.hid OM2_.out
                  have OH1 := Lib.hid OH1_.out
                  have Z2 := Lib.hid Z2_.out
                  have OH2 := Lib.hid OH2_.out
                  have Z3 := Lib.hid Z3_.out
                  have Z7 := Lib.hid Z7_.out
                  have Z8 := Lib.hid Z8_.out
                  have HBR := Lib.hid HBR_.out
                  have Z11 := Lib.hid Z11_.out
                  clear BB_ K1_ HX_ O1_ Z1_ OM2_ OH1_ Z2_ OH2_ Z3_ Z7_ Z8_ HBR_ Z11_
                  clear hq
                  go_wp2_with fail
                  go_meet
                  exact ⟨rfl, HQA.out⟩
                ·
                  obtain ⟨b, hb⟩ := some_of_lt (L := MV) (k := k - 1) (by omega)
                  have hbm := HF.out.ch (k - 1) b m hb (by rw [show k - 1 + 1 = k by omega]; exact HM.out)
                  obtain ⟨bb, ob, eB_, c0, c1, c2, c3, c4⟩ := (Mem.of_own OM2.out).move hb
                  obtain ⟨eb1, eb2, _⟩ := Addr.mk.inj (Option.some.inj eB_)
                  subst eb1 eb2
                  rw [hbm] at c2 c3
                  have hgt : (0 : Int) < (k : Int) := by omega
                  have hgt3 : 0 < k := by omega
                  have j1 : (k : Int) - 1 < (MV.length : Int) := by omega
                  have j2 : (0 : Int) ≤ (k : Int) - 1 := by omega
                  have j3 : ((k : Int) - 1).toNat = k - 1 := by omega
                  have j4 : IntKind.i64.wrap ((k : Int) - 1) = (k : Int) - 1 := IntWalk.i64_in _ (by omega)
                  clear hb hbm eB_ hk0
                  obtain ⟨Z1_0, Z1_1, Z1_2, Z1_3, Z1_4⟩ := Bsx.cells Z1.out
                  obtain ⟨Z2_0, Z2_1, Z2_2, Z2_3, Z2_4⟩ := Bsx.cells Z2.out
                  obtain ⟨Z3_0, Z3_1, Z3_2, Z3_3, Z3_4⟩ := Bsx.cells Z3.out
                  obtain ⟨Z7_0, Z7_1, Z7_2⟩ := Bsp.cells Z7.out
                  obtain ⟨Z8_0, Z8_1, Z8_2⟩ := Bsp.cells Z8.out
                  obtain ⟨Z11_0, Z11_1, Z11_2, Z11_3, Z11_4, Z11_5⟩ := Bmo.cells Z11.out
                  have q0_ := cell_regrown (w := w30) Z11_0
                  have q1_ := cell_regrown (w := w30) Z11_1
                  have q2_ := cell_regrown (w := w30) Z11_2
                  have q3_ := cell_regrown (w := w30) Z11_3
                  have q4_ := cell_regrown (w := w30) c2
                  have q5_ := cell_regrown (w := w30) c3
                  go_wp2
                  refine wp_region_quiet_below (by kernel_rfl) (by kernel_rfl) ?_
                  repeat (first | go_big_quiet_step (fail) | quiet_step (fail))
                  refine wpQuiet_nil ?_
                  intro _ hw'
                  obtain ⟨⟨dq, osq⟩, hw''⟩ := hw'
                  subst hw''
                  have hq := below_regrown w30 dq osq
                  clear q0_ q1_ q2_ q3_ q4_ q5_
                  generalize grow (redrawn w30 dq) osq = w32 at *
                  have HQA := Lib.hid hq
                  have BB_ := Lib.hid (Below.next hq BB.out BB.out.size)
                  have K1_ := Lib.hid (K1.out.below hq)
                  have HX_ := Lib.hid (HX.out.below hq)
                  have O1_ := Lib.hid (own_below O1.out hq)
                  have Z1_ := Lib.hid (Z1.out.below hq)
                  have OM2_ := Lib.hid (own_below OM2.out hq)
                  have OH1_ := Lib.hid (own_below OH1.out hq)
                  have Z2_ := Lib.hid (Z2.out.below hq)
                  have OH2_ := Lib.hid (own_below OH2.out hq)
                  have Z3_ := Lib.hid (Z3.out.below hq)
                  have Z7_ := Lib.hid (Z7.out.below hq)
                  have Z8_ := Lib.hid (Z8.out.below hq)
                  have HBR_ := Lib.hid (Below.next hq HBR.out HBR.out.size)
                  have Z11_ := Lib.hid (Z11.out.below hq)
                  clear BB K1 HX O1 Z1 OM2 OH1 Z2 OH2 Z3 Z7 Z8 HBR Z11
                  have BB := Lib.hid BB_.out
                  have K1 := Lib.hid K1_.out
                  have HX := Lib.hid HX_.out
                  have O1 := Lib.hid O1_.out
                  have Z1 := Lib.hid Z1_.out
                  have OM2 := Lib.hid OM2_.out
                  have OH1 := Lib.hid OH1_.out
                  have Z2 := Lib.hid Z2_.out
                  have OH2 := Lib.hid OH2_.out
                  have Z3 := Lib.hid Z3_.out
                  have Z7 := Lib.hid Z7_.out
                  have Z8 := Lib.hid Z8_.out
                  have HBR := Lib.hid HBR_.out
                  have Z11 := Lib.hid Z11_.out
                  clear BB_ K1_ HX_ O1_ Z1_ OM2_ OH1_ Z2_ OH2_ Z3_ Z7_ Z8_ HBR_ Z11_
                  clear hq
                  go_wp2_with fail
                  go_meet
                  exact ⟨rfl, HQA.out⟩
              case rest =>
                obtain ⟨rfl, hq⟩ := hcut
                have BB_ := Lib.hid (Below.next hq BB.out BB.out.size)
                have K1_ := Lib.hid (K1.out.below hq)
                have HX_ := Lib.hid (HX.out.below hq)
                have O1_ := Lib.hid (own_below O1.out hq)
                have Z1_ := Lib.hid (Z1.out.below hq)
                have OM2_ := Lib.hid (own_below OM2.out hq)
                have OH1_ := Lib.hid (own_below OH1.out hq)
                have Z2_ := Lib.hid (Z2.out.below hq)
                have OH2_ := Lib.hid (own_below OH2.out hq)
                have Z3_ := Lib.hid (Z3.out.below hq)
                have Z7_ := Lib.hid (Z7.out.below hq)
                have Z8_ := Lib.hid (Z8.out.below hq)
                have HBR_ := Lib.hid (Below.next hq HBR.out HBR.out.size)
                have Z11_ := Lib.hid (Z11.out.below hq)
                clear BB K1 HX O1 Z1 OM2 OH1 Z2 OH2 Z3 Z7 Z8 HBR Z11
                have BB := Lib.hid BB_.out
                have K1 := Lib.hid K1_.out
                have HX := Lib.hid HX_.out
                have O1 := Lib.hid O1_.out
                have Z1 := Lib.hid Z1_.out
                have OM2 := Lib.hid OM2_.out
                have OH1 := Lib.hid OH1_.out
                have Z2 := Lib.hid Z2_.out
                have OH2 := Lib.hid OH2_.out
                have Z3 := Lib.hid Z3_.out
                have Z7 := Lib.hid Z7_.out
                have Z8 := Lib.hid Z8_.out
                have HBR := Lib.hid HBR_.out
                have Z11 := Lib.hid Z11_.out
                clear BB_ K1_ HX_ O1_ Z1_ OM2_ OH1_ Z2_ OH2_ Z3_ Z7_ Z8_ HBR_ Z11_
                clear hq
                obtain ⟨Z1_0, Z1_1, Z1_2, Z1_3, Z1_4⟩ := Bsx.cells Z1.out
                obtain ⟨Z2_0, Z2_1, Z2_2, Z2_3, Z2_4⟩ := Bsx.cells Z2.out
                obtain ⟨Z3_0, Z3_1, Z3_2, Z3_3, Z3_4⟩ := Bsx.cells Z3.out
                obtain ⟨Z7_0, Z7_1, Z7_2⟩ := Bsp.cells Z7.out
                obtain ⟨Z8_0, Z8_1, Z8_2⟩ := Bsp.cells Z8.out
                obtain ⟨Z11_0, Z11_1, Z11_2, Z11_3, Z11_4, Z11_5⟩ := Bmo.cells Z11.out
                go_wp2_with fail
                clear Z1_0 Z1_1 Z1_2 Z1_3 Z1_4 Z2_0 Z2_1 Z2_2 Z2_3 Z2_4 Z3_0 Z3_1 Z3_2 Z3_3 Z3_4 Z7_0 Z7_1 Z7_2 Z8_0 Z8_1 Z8_2 Z11_0 Z11_1 Z11_2 Z11_3 Z11_4 Z11_5
                refine (impl_SquareOf_any m.f m.t wc).mono ?_
                rintro e w33 ⟨he, hq⟩
                rw [HQ1.out.1, HQ1.out.2] at he
                subst he
                have BB_ := Lib.hid (Below.next hq BB.out BB.out.size)
                have K1_ := Lib.hid (K1.out.below hq)
                have HX_ := Lib.hid (HX.out.below hq)
                have O1_ := Lib.hid (own_below O1.out hq)
                have Z1_ := Lib.hid (Z1.out.below hq)
                have OM2_ := Lib.hid (own_below OM2.out hq)
                have OH1_ := Lib.hid (own_below OH1.out hq)
                have Z2_ := Lib.hid (Z2.out.below hq)
                have OH2_ := Lib.hid (own_below OH2.out hq)
                have Z3_ := Lib.hid (Z3.out.below hq)
                have Z7_ := Lib.hid (Z7.out.below hq)
                have Z8_ := Lib.hid (Z8.out.below hq)
                have HBR_ := Lib.hid (Below.next hq HBR.out HBR.out.size)
                have Z11_ := Lib.hid (Z11.out.below hq)
                clear BB K1 HX O1 Z1 OM2 OH1 Z2 OH2 Z3 Z7 Z8 HBR Z11
                have BB := Lib.hid BB_.out
                have K1 := Lib.hid K1_.out
                have HX := Lib.hid HX_.out
                have O1 := Lib.hid O1_.out
                have Z1 := Lib.hid Z1_.out
                have OM2 := Lib.hid OM2_.out
                have OH1 := Lib.hid OH1_.out
                have Z2 := Lib.hid Z2_.out
                have OH2 := Lib.hid OH2_.out
                have Z3 := Lib.hid Z3_.out
                have Z7 := Lib.hid Z7_.out
                have Z8 := Lib.hid Z8_.out
                have HBR := Lib.hid HBR_.out
                have Z11 := Lib.hid Z11_.out
                clear BB_ K1_ HX_ O1_ Z1_ OM2_ OH1_ Z2_ OH2_ Z3_ Z7_ Z8_ HBR_ Z11_
                clear hq
                obtain ⟨bb, ob, eB_, c0, c1, c2, c3, c4⟩ := (Mem.of_own OM2.out).move HN.out
                obtain ⟨eb1, eb2, _⟩ := Addr.mk.inj (Option.some.inj eB_)
                subst eb1 eb2
                have j1 : (j : Int) < (MV.length : Int) := by omega
                clear eB_
                go_upto_region 42 with (fail)
                have q0_ := cell_regrown (w := w33) c0
                have q1_ := cell_regrown (w := w33) c1
                have q2_ := cell_regrown (w := w33) c2
                have q3_ := cell_regrown (w := w33) c3
                have C1 := Lib.hid (show ∀ dd os, Calls Tryz.prog 20 #[.agg #[.int .i64 n.f.x, .int .i64 n.f.y], .agg #[.int .i64 n.t.x, .int .i64 n.t.y]] (grow (redrawn w33 dd) os) fun e w'' => e = .returned (.tuple #[.int .i64 d2, .bool true]) ∧ ∃ p : Regrown, w'' = grow (redrawn w33 p.d) p.os from fun dd os => Calls.regrown_of ((impl_SquareOf_any n.f n.t _).mono (by rintro e w' ⟨he, hq⟩; rw [HQ2.out.1, HQ2.out.2] at he; exact ⟨he, hq⟩)))
                go_wp2
                refine wp_region_quiet_below (by kernel_rfl) (by kernel_rfl) ?_
                repeat (first | go_big_quiet_step (exact C1.out _ _) | quiet_step (exact C1.out _ _))
                refine wpQuiet_nil ?_
                intro _ hw'
                obtain ⟨⟨dq, osq⟩, hw''⟩ := hw'
                subst hw''
                have hq := below_regrown w33 dq osq
                clear q0_ q1_ q2_ q3_ C1
                generalize grow (redrawn w33 dq) osq = w34 at *
                have HQA := Lib.hid hq
                have BB_ := Lib.hid (Below.next hq BB.out BB.out.size)
                have K1_ := Lib.hid (K1.out.below hq)
                have HX_ := Lib.hid (HX.out.below hq)
                have O1_ := Lib.hid (own_below O1.out hq)
                have Z1_ := Lib.hid (Z1.out.below hq)
                have OM2_ := Lib.hid (own_below OM2.out hq)
                have OH1_ := Lib.hid (own_below OH1.out hq)
                have Z2_ := Lib.hid (Z2.out.below hq)
                have OH2_ := Lib.hid (own_below OH2.out hq)
                have Z3_ := Lib.hid (Z3.out.below hq)
                have Z7_ := Lib.hid (Z7.out.below hq)
                have Z8_ := Lib.hid (Z8.out.below hq)
                have HBR_ := Lib.hid (Below.next hq HBR.out HBR.out.size)
                have Z11_ := Lib.hid (Z11.out.below hq)
                clear BB K1 HX O1 Z1 OM2 OH1 Z2 OH2 Z3 Z7 Z8 HBR Z11
                have BB := Lib.hid BB_.out
                have K1 := Lib.hid K1_.out
                have HX := Lib.hid HX_.out
                have O1 := Lib.hid O1_.out
                have Z1 := Lib.hid Z1_.out
                have OM2 := Lib.hid OM2_.out
                have OH1 := Lib.hid OH1_.out
                have Z2 := Lib.hid Z2_.out
                have OH2 := Lib.hid OH2_.out
                have Z3 := Lib.hid Z3_.out
                have Z7 := Lib.hid Z7_.out
                have Z8 := Lib.hid Z8_.out
                have HBR := Lib.hid HBR_.out
                have Z11 := Lib.hid Z11_.out
                clear BB_ K1_ HX_ O1_ Z1_ OM2_ OH1_ Z2_ OH2_ Z3_ Z7_ Z8_ HBR_ Z11_
                clear hq
                clear c0 c1 c2 c3 c4
                have hd := HD.out
                have hd2 : decide (d2 < d1) = false := decide_eq_false (by omega)
                have hd3 : ¬ (d2 < d1) := by omega
                have hkj : d1 = d2 → ¬ (k < j) := fun e => by have := HDE.out e; omega
                by_cases hdd : d1 = d2
                ·
                  subst hdd
                  have hk1 := hkj rfl
                  have hk2 : decide (k < j) = false := decide_eq_false hk1
                  have hk3 : ¬ ((k : Int) < (j : Int)) := by omega
                  clear hkj
                  go_wp2_with fail
                  go_roundg (gk - 1)
                  case measure => omega
                  case rel => exact ⟨k + 1, by omega, by go_num, HBR.out⟩
                ·
                  have hk1 : (d1 == d2) = false := beq_eq_false_iff_ne.2 hdd
                  clear hkj
                  go_wp2_with fail
                  go_roundg (gk - 1)
                  case measure => omega
                  case rel => exact ⟨k + 1, by omega, by go_num, HBR.out⟩
            obtain rfl : k = MV.length := by omega
            obtain ⟨Z1_0, Z1_1, Z1_2, Z1_3, Z1_4⟩ := Bsx.cells Z1.out
            obtain ⟨Z2_0, Z2_1, Z2_2, Z2_3, Z2_4⟩ := Bsx.cells Z2.out
            obtain ⟨Z3_0, Z3_1, Z3_2, Z3_3, Z3_4⟩ := Bsx.cells Z3.out
            obtain ⟨Z7_0, Z7_1, Z7_2⟩ := Bsp.cells Z7.out
            obtain ⟨Z8_0, Z8_1, Z8_2⟩ := Bsp.cells Z8.out
            go_wp2_with fail
            clear Z1_0 Z1_1 Z1_2 Z1_3 Z1_4 Z2_0 Z2_1 Z2_2 Z2_3 Z2_4 Z3_0 Z3_1 Z3_2 Z3_3 Z3_4 Z7_0 Z7_1 Z7_2 Z8_0 Z8_1 Z8_2
            go_meet
            exact ⟨BB.out, K1, HX⟩
    case rest => as_aux_lemma =>
      obtain ⟨hB, hK, hX⟩ := hcut
      clear BB K1 HX O1 Z1 OM2 OH1 Z2 OH2 Z3 HB0 HTX HMV HP2 HS2 HV2 HLO HLK hml hvl hl
      have BB := Lib.hid hB
      have K1 := hK
      have HX := hX
      clear hB hK hX
      go_wp2_with fail
      refine (drawParseSheet_any _ _ _ wc K1.out).mono ?_
      rintro e w35 ⟨t, rfl, ht, hq⟩
      have K1_ := Lib.hid (K1.out.below hq)
      have HX_ := Lib.hid (HX.out.below hq)
      have BB_ := Lib.hid (Below.next hq BB.out BB.out.size)
      clear K1 HX BB
      have K1 := Lib.hid K1_.out
      have HX := Lib.hid HX_.out
      have BB := Lib.hid BB_.out
      clear K1_ HX_ BB_
      clear hq
      go_wp2_with fail
      refine (impl_ParseSheet_any t ht mx w35 HX.out).mono ?_
      rintro e w36 ⟨r, Ap, cp, p2, s2, M, hr, hp, rfl, hop, hq⟩
      have K1_ := Lib.hid (K1.out.below hq)
      have HX_ := Lib.hid (HX.out.below hq)
      have BB_ := Lib.hid (Below.next hq BB.out BB.out.size)
      clear K1 HX BB
      have K1 := Lib.hid K1_.out
      have HX := Lib.hid HX_.out
      have BB := Lib.hid BB_.out
      clear K1_ HX_ BB_
      have OP1 := Lib.hid (hop)
      clear hq hop
      have HR := Lib.hid hr
      have HP := Lib.hid hp
      have hM := pr_len hr hp
      clear hr hp
      obtain ⟨rb, hrb⟩ : ∃ x, r.isSome = x := ⟨_, rfl⟩
      have HRB := Lib.hid hrb
      rw [hrb]
      clear hrb
      have Z4 := Lib.hid (Bsx.new w36 p2 s2 Ap M.length cp)
      have hq : Below w36.heap.size w36 (w36.alloc (.cells #[.int .i64 p2, .int .i64 s2.x, .int .i64 s2.y, .slice Ap M.length cp] 28)) := (Below.refl _ _).alloc (Nat.le_refl _) _
      have K1_ := Lib.hid (K1.out.below hq)
      have HX_ := Lib.hid (HX.out.below hq)
      have BB_ := Lib.hid (Below.next hq BB.out BB.out.size)
      have OP1_ := Lib.hid (own_below OP1.out hq)
      clear K1 HX BB OP1
      have K1 := Lib.hid K1_.out
      have HX := Lib.hid HX_.out
      have BB := Lib.hid BB_.out
      have OP1 := Lib.hid OP1_.out
      clear K1_ HX_ BB_ OP1_
      clear hq
      go_wp2_with fail
      generalize w36.alloc (.cells #[.int .i64 p2, .int .i64 s2.x, .int .i64 s2.y, .slice Ap M.length cp] 28) = w37 at *
      generalize w36.heap.size = g4 at *
      refine ((spec_ParseSheet_any t ht w37).mono (fun _ _ h => h.as HR.out HP.out)).mono ?_
      rintro e w38 ⟨Aq, cq, he, hoq, hq⟩
      rw [HRB.out] at he
      subst he
      have K1_ := Lib.hid (K1.out.below hq)
      have HX_ := Lib.hid (HX.out.below hq)
      have BB_ := Lib.hid (Below.next hq BB.out BB.out.size)
      have OP1_ := Lib.hid (own_below OP1.out hq)
      have Z4_ := Lib.hid (Z4.out.below hq)
      clear K1 HX BB OP1 Z4
      have K1 := Lib.hid K1_.out
      have HX := Lib.hid HX_.out
      have BB := Lib.hid BB_.out
      have OP1 := Lib.hid OP1_.out
      have Z4 := Lib.hid Z4_.out
      clear K1_ HX_ BB_ OP1_ Z4_
      have OP2 := Lib.hid (hoq)
      clear hq hoq
      have Z5 := Lib.hid (Bsx.new w38 p2 s2 Aq M.length cq)
      have hq : Below w38.heap.size w38 (w38.alloc (.cells #[.int .i64 p2, .int .i64 s2.x, .int .i64 s2.y, .slice Aq M.length cq] 28)) := (Below.refl _ _).alloc (Nat.le_refl _) _
      have K1_ := Lib.hid (K1.out.below hq)
      have HX_ := Lib.hid (HX.out.below hq)
      have BB_ := Lib.hid (Below.next hq BB.out BB.out.size)
      have OP1_ := Lib.hid (own_below OP1.out hq)
      have Z4_ := Lib.hid (Z4.out.below hq)
      have OP2_ := Lib.hid (own_below OP2.out hq)
      clear K1 HX BB OP1 Z4 OP2
      have K1 := Lib.hid K1_.out
      have HX := Lib.hid HX_.out
      have BB := Lib.hid BB_.out
      have OP1 := Lib.hid OP1_.out
      have Z4 := Lib.hid Z4_.out
      have OP2 := Lib.hid OP2_.out
      clear K1_ HX_ BB_ OP1_ Z4_ OP2_
      clear hq
      obtain ⟨Z4_0, Z4_1, Z4_2, Z4_3, Z4_4⟩ := Bsx.cells Z4.out
      go_wp2_with fail
      clear Z4_0 Z4_1 Z4_2 Z4_3 Z4_4
      generalize w38.alloc (.cells #[.int .i64 p2, .int .i64 s2.x, .int .i64 s2.y, .slice Aq M.length cq] 28) = w39 at *
      generalize w38.heap.size = g5 at *
      refine (drawSameWays_any _ _ _ w39 K1.out).mono ?_
      rintro e w40 ⟨p3, s3, A3, c3, L3, p4, s4, A4, c4, L4, rfl, m3, l3, m4, l4, hq⟩
      have K1_ := Lib.hid (K1.out.below hq)
      have HX_ := Lib.hid (HX.out.below hq)
      have BB_ := Lib.hid (Below.next hq BB.out BB.out.size)
      have OP1_ := Lib.hid (own_below OP1.out hq)
      have Z4_ := Lib.hid (Z4.out.below hq)
      have OP2_ := Lib.hid (own_below OP2.out hq)
      have Z5_ := Lib.hid (Z5.out.below hq)
      clear K1 HX BB OP1 Z4 OP2 Z5
      have K1 := Lib.hid K1_.out
      have HX := Lib.hid HX_.out
      have BB := Lib.hid BB_.out
      have OP1 := Lib.hid OP1_.out
      have Z4 := Lib.hid Z4_.out
      have OP2 := Lib.hid OP2_.out
      have Z5 := Lib.hid Z5_.out
      clear K1_ HX_ BB_ OP1_ Z4_ OP2_ Z5_
      have M3 := Lib.hid (m3)
      have M4 := Lib.hid (m4)
      clear hq m3 m4
      clear K1 HX
      have Z6 := Lib.hid (Bsx.new1 w40 p3 s3 A3 L3.length c3 (.cells #[.int .i64 p4, .int .i64 s4.x, .int .i64 s4.y, .slice A4 L4.length c4] 28))
      have Z7 := Lib.hid (Bsx.new2 w40 p4 s4 A4 L4.length c4 (.cells #[.int .i64 p3, .int .i64 s3.x, .int .i64 s3.y, .slice A3 L3.length c3] 28))
      have hq : Below w40.heap.size w40 ((w40.alloc (.cells #[.int .i64 p3, .int .i64 s3.x, .int .i64 s3.y, .slice A3 L3.length c3] 28)).alloc (.cells #[.int .i64 p4, .int .i64 s4.x, .int .i64 s4.y, .slice A4 L4.length c4] 28)) := ((Below.refl _ _).alloc (Nat.le_refl _) _).alloc (by simp) _
      have BB_ := Lib.hid (Below.next hq BB.out BB.out.size)
      have OP1_ := Lib.hid (own_below OP1.out hq)
      have Z4_ := Lib.hid (Z4.out.below hq)
      have OP2_ := Lib.hid (own_below OP2.out hq)
      have Z5_ := Lib.hid (Z5.out.below hq)
      have M3_ := Lib.hid (M3.out.below hq)
      have M4_ := Lib.hid (M4.out.below hq)
      clear BB OP1 Z4 OP2 Z5 M3 M4
      have BB := Lib.hid BB_.out
      have OP1 := Lib.hid OP1_.out
      have Z4 := Lib.hid Z4_.out
      have OP2 := Lib.hid OP2_.out
      have Z5 := Lib.hid Z5_.out
      have M3 := Lib.hid M3_.out
      have M4 := Lib.hid M4_.out
      clear BB_ OP1_ Z4_ OP2_ Z5_ M3_ M4_
      clear hq
      go_upto_region 50 with (fail)
      generalize (w40.alloc (.cells #[.int .i64 p3, .int .i64 s3.x, .int .i64 s3.y, .slice A3 L3.length c3] 28)).alloc (.cells #[.int .i64 p4, .int .i64 s4.x, .int .i64 s4.y, .slice A4 L4.length c4] 28) = w41 at *
      generalize w40.heap.size = g6 at *
      obtain ⟨sw, hsw⟩ : ∃ x, swV p3 p4 s3 s4 L3 L4 = x := ⟨_, rfl⟩
      obtain ⟨sb, hsb⟩ : ∃ x, swOk p3 p4 s3 s4 L3 L4 = x := ⟨_, rfl⟩
      have HW1 := Lib.hid hsw
      have HW2 := Lib.hid hsb
      have HW3 := Lib.hid ((sw_symm p4 p3 s4 s3 L4 L3).2.trans hsw)
      have HW4 := Lib.hid ((sw_symm p4 p3 s4 s3 L4 L3).1.trans hsb)
      clear hsw hsb
      obtain ⟨Z4_0, Z4_1, Z4_2, Z4_3, Z4_4⟩ := Bsx.cells Z4.out
      obtain ⟨Z5_0, Z5_1, Z5_2, Z5_3, Z5_4⟩ := Bsx.cells Z5.out
      obtain ⟨Z6_0, Z6_1, Z6_2, Z6_3, Z6_4⟩ := Bsx.cells Z6.out
      obtain ⟨Z7_0, Z7_1, Z7_2, Z7_3, Z7_4⟩ := Bsx.cells Z7.out
      go_wp2_with fail
      clear Z4_0 Z4_1 Z4_2 Z4_3 Z4_4 Z5_0 Z5_1 Z5_2 Z5_3 Z5_4 Z6_0 Z6_1 Z6_2 Z6_3 Z6_4 Z7_0 Z7_1 Z7_2 Z7_3 Z7_4
      refine (impl_SameWays_any p3 s3 A3 c3 L3 p4 s4 A4 c4 L4 w41 M3.out M4.out (by omega) (by omega)).mono ?_
      rintro e w42 ⟨he, hq⟩
      rw [HW1.out, HW2.out] at he
      subst he
      have BB_ := Lib.hid (Below.next hq BB.out BB.out.size)
      have OP1_ := Lib.hid (own_below OP1.out hq)
      have Z4_ := Lib.hid (Z4.out.below hq)
      have OP2_ := Lib.hid (own_below OP2.out hq)
      have Z5_ := Lib.hid (Z5.out.below hq)
      have M3_ := Lib.hid (M3.out.below hq)
      have M4_ := Lib.hid (M4.out.below hq)
      have Z6_ := Lib.hid (Z6.out.below hq)
      have Z7_ := Lib.hid (Z7.out.below hq)
      clear BB OP1 Z4 OP2 Z5 M3 M4 Z6 Z7
      have BB := Lib.hid BB_.out
      have OP1 := Lib.hid OP1_.out
      have Z4 := Lib.hid Z4_.out
      have OP2 := Lib.hid OP2_.out
      have Z5 := Lib.hid Z5_.out
      have M3 := Lib.hid M3_.out
      have M4 := Lib.hid M4_.out
      have Z6 := Lib.hid Z6_.out
      have Z7 := Lib.hid Z7_.out
      clear BB_ OP1_ Z4_ OP2_ Z5_ M3_ M4_ Z6_ Z7_
      clear hq
      obtain ⟨Z4_0, Z4_1, Z4_2, Z4_3, Z4_4⟩ := Bsx.cells Z4.out
      obtain ⟨Z5_0, Z5_1, Z5_2, Z5_3, Z5_4⟩ := Bsx.cells Z5.out
      obtain ⟨Z6_0, Z6_1, Z6_2, Z6_3, Z6_4⟩ := Bsx.cells Z6.out
      obtain ⟨Z7_0, Z7_1, Z7_2, Z7_3, Z7_4⟩ := Bsx.cells Z7.out
      go_wp2_with fail
      clear Z4_0 Z4_1 Z4_2 Z4_3 Z4_4 Z5_0 Z5_1 Z5_2 Z5_3 Z5_4 Z6_0 Z6_1 Z6_2 Z6_3 Z6_4 Z7_0 Z7_1 Z7_2 Z7_3 Z7_4
      refine (spec_SameWays_any p3 s3 A3 c3 L3 p4 s4 A4 c4 L4 w42 M3.out M4.out (by omega) (by omega)).mono ?_
      rintro e w43 ⟨he, hq⟩
      rw [HW1.out, HW2.out] at he
      subst he
      have BB_ := Lib.hid (Below.next hq BB.out BB.out.size)
      have OP1_ := Lib.hid (own_below OP1.out hq)
      have Z4_ := Lib.hid (Z4.out.below hq)
      have OP2_ := Lib.hid (own_below OP2.out hq)
      have Z5_ := Lib.hid (Z5.out.below hq)
      have M3_ := Lib.hid (M3.out.below hq)
      have M4_ := Lib.hid (M4.out.below hq)
      have Z6_ := Lib.hid (Z6.out.below hq)
      have Z7_ := Lib.hid (Z7.out.below hq)
      clear BB OP1 Z4 OP2 Z5 M3 M4 Z6 Z7
      have BB := Lib.hid BB_.out
      have OP1 := Lib.hid OP1_.out
      have Z4 := Lib.hid Z4_.out
      have OP2 := Lib.hid OP2_.out
      have Z5 := Lib.hid Z5_.out
      have M3 := Lib.hid M3_.out
      have M4 := Lib.hid M4_.out
      have Z6 := Lib.hid Z6_.out
      have Z7 := Lib.hid Z7_.out
      clear BB_ OP1_ Z4_ OP2_ Z5_ M3_ M4_ Z6_ Z7_
      clear hq
      obtain ⟨Z4_0, Z4_1, Z4_2, Z4_3, Z4_4⟩ := Bsx.cells Z4.out
      obtain ⟨Z5_0, Z5_1, Z5_2, Z5_3, Z5_4⟩ := Bsx.cells Z5.out
      obtain ⟨Z6_0, Z6_1, Z6_2, Z6_3, Z6_4⟩ := Bsx.cells Z6.out
      obtain ⟨Z7_0, Z7_1, Z7_2, Z7_3, Z7_4⟩ := Bsx.cells Z7.out
      go_wp2_with fail
      clear Z4_0 Z4_1 Z4_2 Z4_3 Z4_4 Z5_0 Z5_1 Z5_2 Z5_3 Z5_4 Z6_0 Z6_1 Z6_2 Z6_3 Z6_4 Z7_0 Z7_1 Z7_2 Z7_3 Z7_4
      refine (impl_SameWays_any p4 s4 A4 c4 L4 p3 s3 A3 c3 L3 w43 M4.out M3.out (by omega) (by omega)).mono ?_
      rintro e w44 ⟨he, hq⟩
      rw [HW3.out, HW4.out] at he
      subst he
      have BB_ := Lib.hid (Below.next hq BB.out BB.out.size)
      have OP1_ := Lib.hid (own_below OP1.out hq)
      have Z4_ := Lib.hid (Z4.out.below hq)
      have OP2_ := Lib.hid (own_below OP2.out hq)
      have Z5_ := Lib.hid (Z5.out.below hq)
      have M3_ := Lib.hid (M3.out.below hq)
      have M4_ := Lib.hid (M4.out.below hq)
      have Z6_ := Lib.hid (Z6.out.below hq)
      have Z7_ := Lib.hid (Z7.out.below hq)
      clear BB OP1 Z4 OP2 Z5 M3 M4 Z6 Z7
      have BB := Lib.hid BB_.out
      have OP1 := Lib.hid OP1_.out
      have Z4 := Lib.hid Z4_.out
      have OP2 := Lib.hid OP2_.out
      have Z5 := Lib.hid Z5_.out
      have M3 := Lib.hid M3_.out
      have M4 := Lib.hid M4_.out
      have Z6 := Lib.hid Z6_.out
      have Z7 := Lib.hid Z7_.out
      clear BB_ OP1_ Z4_ OP2_ Z5_ M3_ M4_ Z6_ Z7_
      clear hq
      clear Z6 Z7 M3 M4
      cases rb <;> cases sb
      all_goals
        obtain ⟨Z4_0, Z4_1, Z4_2, Z4_3, Z4_4⟩ := Bsx.cells Z4.out
        obtain ⟨Z5_0, Z5_1, Z5_2, Z5_3, Z5_4⟩ := Bsx.cells Z5.out
        go_wp2_with fail
        clear Z4_0 Z4_1 Z4_2 Z4_3 Z4_4 Z5_0 Z5_1 Z5_2 Z5_3 Z5_4
        refine (pSameSheet_same p2 s2 Ap Aq cp cq M w44 (Mem.of_own OP1.out) (Mem.of_own OP2.out) (by omega)).mono ?_
        rintro e w45 ⟨rfl, hq⟩
        have BB_ := Lib.hid (Below.next hq BB.out BB.out.size)
        have OP1_ := Lib.hid (own_below OP1.out hq)
        have Z4_ := Lib.hid (Z4.out.below hq)
        have OP2_ := Lib.hid (own_below OP2.out hq)
        have Z5_ := Lib.hid (Z5.out.below hq)
        clear BB OP1 Z4 OP2 Z5
        have BB := Lib.hid BB_.out
        have OP1 := Lib.hid OP1_.out
        have Z4 := Lib.hid Z4_.out
        have OP2 := Lib.hid OP2_.out
        have Z5 := Lib.hid Z5_.out
        clear BB_ OP1_ Z4_ OP2_ Z5_
        clear hq
        clear Z4 Z5
        go_wp2_with fail
        go_ret
        exact ⟨rfl, BB.out⟩
end Go.Proofs.YtdmgffcabjpihaaGreatDoor
