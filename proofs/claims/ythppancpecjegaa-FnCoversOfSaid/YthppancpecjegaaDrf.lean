/-
  Draws of absences: absence, DrawIsAbsence, DrawLeastCoverOf, DrawLackingPerformers, DrawWorstAbsence.
-/
import Derived.Test.YthppancpecjegaaDre
namespace Go.Proofs.Ythppancpecjegaa
open Go.RowKit

/-- Spots, and performers, that a call has laid behind w. -/
def ownH (w w' : World) (A' : Option Addr) (c' : Nat) (L : List Sp) : Prop := L.length ≤ 13 ∧ w'.ownsRow w.heap.size 54 2 (.slice A' L.length c') L.length (spots L) ∧ (∀ s ∈ L, smSp s)
def ownI (w w' : World) (A' : Option Addr) (c' : Nat) (O : List Int) : Prop := O.length ≤ 14 ∧ w'.ownsRow w.heap.size 3 1 (.slice A' O.length c') O.length (ints O) ∧ (∀ x ∈ O, -1 ≤ x ∧ x ≤ 13)
theorem ownH.base {w a w' : World} {A' : Option Addr} {c' : Nat} {L : List Sp} (h : ownH a w' A' c' L) (hb : w.heap.size ≤ a.heap.size) : ownH w w' A' c' L := ⟨h.1, own_base h.2.1 hb, h.2.2⟩
theorem ownI.base {w a w' : World} {A' : Option Addr} {c' : Nat} {L : List Int} (h : ownI a w' A' c' L) (hb : w.heap.size ≤ a.heap.size) : ownI w w' A' c' L := ⟨h.1, own_base h.2.1 hb, h.2.2⟩
theorem ownH.oth {w w' w'' : World} {g : Nat} {A' : Option Addr} {c' : Nat} {L : List Sp} (h : ownH w w' A' c' L) (ho : Oth g w' w'') (hg : g < w.heap.size) : ownH w w'' A' c' L := ⟨h.1, ho.own h.2.1 hg, h.2.2⟩
theorem ownI.oth {w w' w'' : World} {g : Nat} {A' : Option Addr} {c' : Nat} {L : List Int} (h : ownI w w' A' c' L) (ho : Oth g w' w'') (hg : g < w.heap.size) : ownI w w'' A' c' L := ⟨h.1, ho.own h.2.1 hg, h.2.2⟩
theorem ownH.below {w w' w'' : World} {A' : Option Addr} {c' : Nat} {L : List Sp} (h : ownH w w' A' c' L) (hb : Below w'.heap.size w' w'') : ownH w w'' A' c' L := ⟨h.1, own_below h.2.1 hb, h.2.2⟩
theorem ownI.below {w w' w'' : World} {A' : Option Addr} {c' : Nat} {L : List Int} (h : ownI w w' A' c' L) (hb : Below w'.heap.size w' w'') : ownI w w'' A' c' L := ⟨h.1, own_below h.2.1 hb, h.2.2⟩
/-- A chart, absent and needed ones are drawn. -/
def Dab (g k : Nat) (w : World) (e : Ending) (w' : World) : Prop :=
  ∃ A' c' L B' d' O C' f' M, e = .returned (.tuple #[.slice A' L.length c', .slice B' O.length d', .slice C' M.length f']) ∧ ownH w w' A' c' L ∧ ownI w w' B' d' O ∧ ownI w w' C' f' M ∧ Cur w' g k ∧ Oth g w w'
set_option maxHeartbeats 1600000 in
set_option maxRecDepth 100000 in
theorem absence_any (g k : Nat) (w : World) (h : Cur w g k) (hk : k ≤ 300000) : Calls Try.prog 65 #[.pointer (some ⟨g, 0, none⟩)] w (Dab g (k + 9200) w) := by
  have hlt0 := h.lt
  go_enter Try.func65, Try.ntmps65
  go_wp2_with fail
  refine (anyChart_any g k _ h (by omega)).mono ?_
  rintro e w1 ⟨A', c', L, rfl, hl, hx, hsm, hc1, ho1⟩
  have HX1 := Lib.hid (show ownH w w1 A' c' L from ⟨hl, hx, hsm⟩)
  have O1 := Lib.hid ho1
  have z1 : w.heap.size ≤ w1.heap.size := ho1.size
  clear hx hsm ho1 h
  go_wp2_with fail
  refine (pick_any g (k + 9000) _ _ 3 hc1 (by omega) (by omega) (by omega) (by omega)).mono ?_
  rintro e w2 ⟨n, rfl, n0, n1, hc2, ho2⟩
  have HX2 := Lib.hid (HX1.out.oth ho2 hlt0)
  have O2 := Lib.hid (O1.out.trans ho2)
  have z2 : w.heap.size ≤ w2.heap.size := O2.out.size
  clear ho2 hc1
  go_wp2_with fail
  refine (performersOf_any g (k + 9002) _ _ L.length _ _ hc2 (by omega) hl (by omega)).mono ?_
  rintro e w3 ⟨B', d', O, rfl, hol, hox, hob, hc3, ho3⟩
  have HX3 := Lib.hid (HX2.out.oth ho3 hlt0)
  have HO3 := Lib.hid ((show ownI w2 w3 B' d' O from ⟨hol, hox, hob⟩).base z2)
  have O3 := Lib.hid (O2.out.trans ho3)
  have z3 : w.heap.size ≤ w3.heap.size := O3.out.size
  clear ho3 hc2 hox hob
  go_wp2_with fail
  refine (performersOf_any g (k + 9062) _ _ L.length _ _ hc3 (by omega) hl (by omega)).mono ?_
  rintro e w4 ⟨C', f', M, rfl, hml, hmx, hmb, hc4, ho4⟩
  have HX4 := Lib.hid (HX3.out.oth ho4 hlt0)
  have HO4 := Lib.hid (HO3.out.oth ho4 hlt0)
  have HM4 := Lib.hid ((show ownI w3 w4 C' f' M from ⟨hml, hmx, hmb⟩).base z3)
  have O4 := Lib.hid (O3.out.trans ho4)
  have C4 := Lib.hid hc4
  clear ho4 hc3 hmx hmb hc4
  go_wp2_with fail
  go_ret3
  exact ⟨A', c', L, B', d', O, C', f', M, rfl, HX4.out, HO4.out, HM4.out, C4.out.mono (by omega), O4.out⟩

/-- Bytes that are handed in. -/
def code (w : World) (A : Option Addr) (C : List Int) : Prop := Mem w A (bytes C) ∧ (∀ x ∈ C, 0 ≤ x ∧ x ≤ 255) ∧ C.length ≤ 9223372036854775807
theorem code.below {w w' : World} {A : Option Addr} {C : List Int} (h : code w A C) (hb : Below w.heap.size w w') : code w' A C := ⟨h.1.below hb, h.2⟩
theorem code.cur {w : World} {A : Option Addr} {c : Nat} {C : List Int} (h : code w A C) : Cur (w.alloc (.cells #[.slice A C.length c, .int .i64 0, .int .u64 0] 67)) w.heap.size 0 := Cur.new h.1 h.2.1 h.2.2
def DrA (w : World) (e : Ending) (w' : World) : Prop :=
  ∃ A' c' L B' d' O C' f' M, e = .returned (.tuple #[.slice A' L.length c', .slice B' O.length d', .slice C' M.length f']) ∧ ownH w w' A' c' L ∧ ownI w w' B' d' O ∧ ownI w w' C' f' M ∧ Below w.heap.size w w'
def DrW (w : World) (e : Ending) (w' : World) : Prop :=
  ∃ A' c' L C' f' M, e = .returned (.tuple #[.slice A' L.length c', .slice C' M.length f']) ∧ ownH w w' A' c' L ∧ ownI w w' C' f' M ∧ Below w.heap.size w w'
set_option maxRecDepth 100000 in
theorem drawIsAbsence_any (A : Option Addr) (c : Nat) (C : List Int) (w : World) (h : code w A C) : Calls Try.prog 60 #[.slice A C.length c] w (DrA w) := by
  have HC := Lib.hid (code.cur (c := c) h)
  have HB := Lib.hid ((Below.refl w.heap.size w).alloc (Nat.le_refl _) (.cells #[.slice A C.length c, .int .i64 0, .int .u64 0] 67))
  clear h
  go_enter Try.func60, Try.ntmps60
  go_wp2_with fail
  refine (absence_any w.heap.size 0 _ HC.out (by omega)).mono ?_
  rintro e w1 ⟨A', c', L, B', d', O, C', f', M, rfl, h1, h2, h3, _, ho⟩
  have H1 := Lib.hid (h1.base (w := w) (by simp))
  have H2 := Lib.hid (h2.base (w := w) (by simp))
  have H3 := Lib.hid (h3.base (w := w) (by simp))
  have HB1 := Lib.hid (HB.out.trans (ho.below (B := w.heap.size) (Nat.le_refl _) (by simp)))
  clear h1 h2 h3 ho
  go_wp2_with fail
  go_ret3
  exact ⟨A', c', L, B', d', O, C', f', M, rfl, H1.out, H2.out, H3.out, HB1.out⟩
set_option maxRecDepth 100000 in
theorem drawLeastCoverOf_any (A : Option Addr) (c : Nat) (C : List Int) (w : World) (h : code w A C) : Calls Try.prog 32 #[.slice A C.length c] w (DrA w) := by
  go_enter Try.func32, Try.ntmps32
  go_wp2_with fail
  refine (drawIsAbsence_any _ _ _ _ h).mono ?_
  rintro e w1 ⟨A', c', L, B', d', O, C', f', M, rfl, h1, h2, h3, hb⟩
  have H1 := Lib.hid h1
  have H2 := Lib.hid h2
  have H3 := Lib.hid h3
  have HB := Lib.hid hb
  clear h1 h2 h3 hb
  go_wp2_with fail
  go_ret3
  exact ⟨A', c', L, B', d', O, C', f', M, rfl, H1.out, H2.out, H3.out, HB.out⟩
set_option maxRecDepth 100000 in
theorem drawLackingPerformers_any (A : Option Addr) (c : Nat) (C : List Int) (w : World) (h : code w A C) : Calls Try.prog 26 #[.slice A C.length c] w (DrA w) := by
  go_enter Try.func26, Try.ntmps26
  go_wp2_with fail
  refine (drawIsAbsence_any _ _ _ _ h).mono ?_
  rintro e w1 ⟨A', c', L, B', d', O, C', f', M, rfl, h1, h2, h3, hb⟩
  have H1 := Lib.hid h1
  have H2 := Lib.hid h2
  have H3 := Lib.hid h3
  have HB := Lib.hid hb
  clear h1 h2 h3 hb
  go_wp2_with fail
  go_ret3
  exact ⟨A', c', L, B', d', O, C', f', M, rfl, H1.out, H2.out, H3.out, HB.out⟩
set_option maxRecDepth 100000 in
theorem drawWorstAbsence_any (A : Option Addr) (c : Nat) (C : List Int) (w : World) (h : code w A C) : Calls Try.prog 19 #[.slice A C.length c] w (DrW w) := by
  have HC := Lib.hid (code.cur (c := c) h)
  have HB := Lib.hid ((Below.refl w.heap.size w).alloc (Nat.le_refl _) (.cells #[.slice A C.length c, .int .i64 0, .int .u64 0] 67))
  clear h
  obtain ⟨W0, hW0⟩ : ∃ x, w.alloc (.cells #[.slice A C.length c, .int .i64 0, .int .u64 0] 67) = x := ⟨_, rfl⟩
  have hlt : w.heap.size < W0.heap.size := by rw [← hW0]; simp
  go_enter Try.func19, Try.ntmps19
  go_wp2_with fail
  (try rw [hW0] at HC)
  (try rw [hW0] at HB)
  (try rw [hW0])
  refine (anyChart_any w.heap.size 0 _ HC.out (by omega)).mono ?_
  rintro e w1 ⟨A', c', L, rfl, hl, hx, hsm, hc1, ho1⟩
  have HX1 := Lib.hid (show ownH W0 w1 A' c' L from ⟨hl, hx, hsm⟩)
  have O1 := Lib.hid ho1
  have z1 : W0.heap.size ≤ w1.heap.size := ho1.size
  clear hx hsm ho1 hW0
  go_wp2_with fail
  refine (performersOf_any w.heap.size 9000 _ _ L.length _ _ (hc1.mono (by omega)) (by omega) hl (by omega)).mono ?_
  rintro e w3 ⟨B', d', O, rfl, hol, hox, hob, _, ho3⟩
  have HX3 := Lib.hid ((HX1.out.oth ho3 hlt).base (w := w) (by omega))
  have HO3 := Lib.hid ((show ownI w1 w3 B' d' O from ⟨hol, hox, hob⟩).base (w := w) (by omega))
  have HB3 := Lib.hid (HB.out.trans ((O1.out.trans ho3).below (B := w.heap.size) (Nat.le_refl _) (by omega)))
  clear ho3 hc1 hox hob
  go_wp2_with fail
  go_ret2
  exact ⟨A', c', L, B', d', O, rfl, HX3.out, HO3.out, HB3.out⟩
end Go.Proofs.Ythppancpecjegaa
