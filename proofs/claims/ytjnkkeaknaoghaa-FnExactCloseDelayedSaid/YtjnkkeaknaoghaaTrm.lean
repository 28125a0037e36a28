/-
  Transitions copied, compared, marked and counted; what a transition that can be read as data looks like.
-/
import Derived.Test.YtjnkkeaknaoghaaPlain2
import Derived.Test.YtjnkkeaknaoghaaCpySp
import Derived.Test.YtjnkkeaknaoghaaFrame
namespace Go.Proofs.Ytjnkkeaknaoghaa
open Go.RowKit Go.Sort


theorem szIntS_yes (A : Option Addr) (n c : Nat) (left : Int) (w : World) (h : (n : Int) ≤ left) (h0 : 0 ≤ left) (h1 : left ≤ 1048576) : Calls Try.prog 62 #[.slice A n c, .int .i64 left] w fun e w' =>
    e = .returned (.int .i64 (left - n)) ∧ w = w' := by
  go_enter Try.func62, Try.ntmps62
  go_wp2
  go_ret
  exact ⟨rfl, rfl⟩
theorem szIntS_no (A : Option Addr) (n c : Nat) (left : Int) (w : World) (h : left < (n : Int)) (hn : n ≤ 9223372036854775807) (h0 : 0 ≤ left) (h1 : left ≤ 1048576) : Calls Try.prog 62 #[.slice A n c, .int .i64 left] w fun e w' =>
    e = .returned (.int .i64 (-1)) ∧ w = w' := by
  go_enter Try.func62, Try.ntmps62
  go_wp2
  go_ret
  exact ⟨rfl, rfl⟩

theorem szTransition_yes (A B C : Option Addr) (n1 n2 n3 c d f : Nat) (n left : Int) (w : World) (h : (n1 + n2 + n3 : Int) ≤ left) (h0 : 0 ≤ left) (h1 : left ≤ 1048576) : Calls Try.prog 11 #[.agg #[.slice A n1 c, .slice B n2 d, .int .i64 n, .slice C n3 f], .int .i64 left] w fun e w' =>
    e = .returned (.int .i64 (left - n1 - n2 - n3)) ∧ Below w.heap.size w w' := by
  go_enter Try.func11, Try.ntmps11
  go_wp2_with (first | (go_at_call 21; refine (szSpotS_yes _ _ _ _ _ (by omega) (by omega) (by omega)).mono ?_; rintro e w' ⟨rfl, rfl⟩) | (go_at_call 21; refine (szSpotS_no _ _ _ _ _ (by omega) (by omega) (by omega) (by omega)).mono ?_; rintro e w' ⟨rfl, rfl⟩) | (go_at_call 62; refine (szIntS_yes _ _ _ _ _ (by omega) (by omega) (by omega)).mono ?_; rintro e w' ⟨rfl, rfl⟩) | (go_at_call 62; refine (szIntS_no _ _ _ _ _ (by omega) (by omega) (by omega) (by omega)).mono ?_; rintro e w' ⟨rfl, rfl⟩))
  go_ret
  exact ⟨rfl, by (repeat (first | exact Below.refl _ _ | assumption | (refine Below.alloc ?_ (by first | omega | (simp; done) | (simp; omega)) _) | (refine Below.setCell ?_ (by first | omega | (simp; done) | (simp; omega)) _) | (refine Below.drew ?_) | (refine Below.drewN ?_ _) | (refine Below.next (by assumption) ?_ (by first | omega | (simp; done) | (simp; omega)))))⟩
set_option maxHeartbeats 800000 in
theorem szTransition_no (A B C : Option Addr) (n1 n2 n3 c d f : Nat) (n left : Int) (w : World) (h : left < (n1 + n2 + n3 : Int)) (l1 : n1 ≤ 9223372036854775807) (l2 : n2 ≤ 9223372036854775807) (l3 : n3 ≤ 9223372036854775807) (h0 : 0 ≤ left) (h1 : left ≤ 1048576) : Calls Try.prog 11 #[.agg #[.slice A n1 c, .slice B n2 d, .int .i64 n, .slice C n3 f], .int .i64 left] w fun e w' =>
    e = .returned (.int .i64 (-1)) ∧ Below w.heap.size w w' := by
  by_cases g1 : (n1 : Int) ≤ left
  · by_cases g2 : (n2 : Int) ≤ left - n1
    all_goals
      go_enter Try.func11, Try.ntmps11
      go_wp2_with (first | (go_at_call 21; refine (szSpotS_yes _ _ _ _ _ (by omega) (by omega) (by omega)).mono ?_; rintro e w' ⟨rfl, rfl⟩) | (go_at_call 21; refine (szSpotS_no _ _ _ _ _ (by omega) (by omega) (by omega) (by omega)).mono ?_; rintro e w' ⟨rfl, rfl⟩) | (go_at_call 62; refine (szIntS_yes _ _ _ _ _ (by omega) (by omega) (by omega)).mono ?_; rintro e w' ⟨rfl, rfl⟩) | (go_at_call 62; refine (szIntS_no _ _ _ _ _ (by omega) (by omega) (by omega) (by omega)).mono ?_; rintro e w' ⟨rfl, rfl⟩))
      go_ret
      exact ⟨rfl, by (repeat (first | exact Below.refl _ _ | assumption | (refine Below.alloc ?_ (by first | omega | (simp; done) | (simp; omega)) _) | (refine Below.setCell ?_ (by first | omega | (simp; done) | (simp; omega)) _) | (refine Below.drew ?_) | (refine Below.drewN ?_ _) | (refine Below.next (by assumption) ?_ (by first | omega | (simp; done) | (simp; omega)))))⟩
  · go_enter Try.func11, Try.ntmps11
    go_wp2_with (first | (go_at_call 21; refine (szSpotS_yes _ _ _ _ _ (by omega) (by omega) (by omega)).mono ?_; rintro e w' ⟨rfl, rfl⟩) | (go_at_call 21; refine (szSpotS_no _ _ _ _ _ (by omega) (by omega) (by omega) (by omega)).mono ?_; rintro e w' ⟨rfl, rfl⟩) | (go_at_call 62; refine (szIntS_yes _ _ _ _ _ (by omega) (by omega) (by omega)).mono ?_; rintro e w' ⟨rfl, rfl⟩) | (go_at_call 62; refine (szIntS_no _ _ _ _ _ (by omega) (by omega) (by omega) (by omega)).mono ?_; rintro e w' ⟨rfl, rfl⟩))
    go_ret
    exact ⟨rfl, by (repeat (first | exact Below.refl _ _ | assumption | (refine Below.alloc ?_ (by first | omega | (simp; done) | (simp; omega)) _) | (refine Below.setCell ?_ (by first | omega | (simp; done) | (simp; omega)) _) | (refine Below.drew ?_) | (refine Below.drewN ?_ _) | (refine Below.next (by assumption) ?_ (by first | omega | (simp; done) | (simp; omega)))))⟩


/-- A row lies in blocks lo, lo + 1, .. hi - 1. -/
structure Lies (lo hi : Nat) (v : Value) : Prop where
  lt : ∀ k, v.ownBlock = some k → lo ≤ k ∧ k < hi
theorem Lies.of_own {w : World} {base : Nat} {e : TypeId} {size : Nat} {v : Value} {n : Nat} {xs : List Value} (h : w.ownsRow base e size v n xs) : Lies base w.heap.size v := ⟨h.lt⟩
theorem Lies.up {lo hi lo' hi' : Nat} {v : Value} (h : Lies lo hi v) (h1 : lo' ≤ lo) (h2 : hi ≤ hi') : Lies lo' hi' v := ⟨fun k hk => by have := h.lt k hk; omega⟩
/-- A call hands back a transition whose three rows lie in memory of its own. -/
def RetTrans (w : World) (F T : List Sp) (n : Int) (P : List Int) (e : Ending) (w' : World) : Prop :=
  ∃ A c B d C f s1 s2, e = .returned (.agg #[.slice A F.length c, .slice B T.length d, .int .i64 n, .slice C P.length f]) ∧ w'.ownsRow w.heap.size 73 2 (.slice A F.length c) F.length (spots F) ∧ w'.ownsRow w.heap.size 73 2 (.slice B T.length d) T.length (spots T) ∧ w'.ownsRow w.heap.size 3 1 (.slice C P.length f) P.length (ints P) ∧
    Lies w.heap.size s1 (.slice A F.length c) ∧ Lies s1 s2 (.slice B T.length d) ∧ Lies s2 w'.heap.size (.slice C P.length f) ∧ (w.heap.size ≤ s1 ∧ s1 ≤ s2 ∧ s2 ≤ w'.heap.size) ∧ Below w.heap.size w w'


set_option maxRecDepth 20000 in
set_option maxHeartbeats 3200000 in
theorem toTransition_any (A : Option Addr) (c : Nat) (F : List Sp) (B : Option Addr) (d : Nat) (T : List Sp) (n : Int) (C : Option Addr) (f : Nat) (P : List Int) (w : World) (hf : Mem w A (spots F)) (ht : Mem w B (spots T)) (hp : Mem w C (ints P)) (lf : F.length ≤ 1048576) (lt : T.length ≤ 1048576) (lp : P.length ≤ 1048576) : Calls Try.prog 13 #[.agg #[.slice A F.length c, .slice B T.length d, .int .i64 n, .slice C P.length f]] w (RetTrans w F T n P) := by
  go_enter Try.func13, Try.ntmps13
  go_wp2_with fail
  refine (toSpotS_any _ _ F _ (hf.below (by (repeat (first | exact Below.refl _ _ | assumption | (refine Below.alloc ?_ (by first | omega | (simp; done) | (simp; omega)) _) | (refine Below.setCell ?_ (by first | omega | (simp; done) | (simp; omega)) _) | (refine Below.drew ?_) | (refine Below.drewN ?_ _) | (refine Below.next (by assumption) ?_ (by first | omega | (simp; done) | (simp; omega))))))) lf).mono ?_
  rintro e w1 ⟨A1, c1, rfl, ho1, hq1⟩
  obtain ⟨hz1, hc1, hf1⟩ := bel hq1
  (try simp at hz1)
  have x1 : w.heap.size < w1.heap.size := by omega
  have x2 : w.heap.size + 1 < w1.heap.size := by omega
  have x3 : w.heap.size + 1 + 1 < w1.heap.size := by omega
  have hb1 : Below w.heap.size w w1 := by (repeat (first | exact Below.refl _ _ | assumption | (refine Below.alloc ?_ (by first | omega | (simp; done) | (simp; omega)) _) | (refine Below.setCell ?_ (by first | omega | (simp; done) | (simp; omega)) _) | (refine Below.drew ?_) | (refine Below.drewN ?_ _) | (refine Below.next (by assumption) ?_ (by first | omega | (simp; done) | (simp; omega)))))
  have O1 := Lib.hid (own_base ho1 (base' := w.heap.size + 1 + 1 + 1) (by simp))
  have I1 := Lib.hid ((Lies.of_own ho1).up (lo' := w.heap.size) (hi' := w1.heap.size) (by simp; omega) (Nat.le_refl _))
  clear ho1
  go_wp2_with fail
  refine (toSpotS_any _ _ T _ (ht.below (by (repeat (first | exact Below.refl _ _ | assumption | (refine Below.alloc ?_ (by first | omega | (simp; done) | (simp; omega)) _) | (refine Below.setCell ?_ (by first | omega | (simp; done) | (simp; omega)) _) | (refine Below.drew ?_) | (refine Below.drewN ?_ _) | (refine Below.next (by assumption) ?_ (by first | omega | (simp; done) | (simp; omega))))))) lt).mono ?_
  rintro e w2 ⟨A2, c2, rfl, ho2, hq2⟩
  obtain ⟨hz2, hc2, hf2⟩ := bel hq2
  (try simp at hz2)
  have y1 : w.heap.size < w2.heap.size := by omega
  have y2 : w.heap.size + 1 < w2.heap.size := by omega
  have y3 : w.heap.size + 1 + 1 < w2.heap.size := by omega
  have hb2 : Below w.heap.size w w2 := by (repeat (first | exact Below.refl _ _ | assumption | (refine Below.alloc ?_ (by first | omega | (simp; done) | (simp; omega)) _) | (refine Below.setCell ?_ (by first | omega | (simp; done) | (simp; omega)) _) | (refine Below.drew ?_) | (refine Below.drewN ?_ _) | (refine Below.next (by assumption) ?_ (by first | omega | (simp; done) | (simp; omega)))))
  have O2 := Lib.hid (own_base ho2 (base' := w.heap.size + 1 + 1 + 1) (by simp; omega))
  have I2 := Lib.hid ((Lies.of_own ho2).up (lo' := w1.heap.size) (hi' := w2.heap.size) (by simp) (Nat.le_refl _))
  have P1 := Lib.hid (own_below (ownsRow_setCell_below O1.out (by (try dsimp only); omega) _) hq2)
  clear ho2 O1
  go_wp2_with fail
  refine (toIntS_any _ _ P _ (hp.below (by (repeat (first | exact Below.refl _ _ | assumption | (refine Below.alloc ?_ (by first | omega | (simp; done) | (simp; omega)) _) | (refine Below.setCell ?_ (by first | omega | (simp; done) | (simp; omega)) _) | (refine Below.drew ?_) | (refine Below.drewN ?_ _) | (refine Below.next (by assumption) ?_ (by first | omega | (simp; done) | (simp; omega))))))) lp).mono ?_
  rintro e w3 ⟨A3, c3, rfl, ho3, hq3⟩
  obtain ⟨hz3, hc3, hf3⟩ := bel hq3
  (try simp at hz3)
  have z1 : w.heap.size < w3.heap.size := by omega
  have z2 : w.heap.size + 1 < w3.heap.size := by omega
  have z3 : w.heap.size + 1 + 1 < w3.heap.size := by omega
  have hb3 : Below w.heap.size w w3 := by (repeat (first | exact Below.refl _ _ | assumption | (refine Below.alloc ?_ (by first | omega | (simp; done) | (simp; omega)) _) | (refine Below.setCell ?_ (by first | omega | (simp; done) | (simp; omega)) _) | (refine Below.drew ?_) | (refine Below.drewN ?_ _) | (refine Below.next (by assumption) ?_ (by first | omega | (simp; done) | (simp; omega)))))
  have O3 := Lib.hid (own_base ho3 (base' := w.heap.size + 1 + 1 + 1) (by simp; omega))
  have I3 := Lib.hid ((Lies.of_own ho3).up (lo' := w2.heap.size) (hi' := w3.heap.size) (by simp) (Nat.le_refl _))
  have Q1 := Lib.hid (own_below (ownsRow_setCell_below (ownsRow_setCell_below P1.out (by (try dsimp only); omega) _) (by (try dsimp only); omega) _) hq3)
  have Q2 := Lib.hid (own_below (ownsRow_setCell_below (ownsRow_setCell_below O2.out (by (try dsimp only); omega) _) (by (try dsimp only); omega) _) hq3)
  clear ho3 O2 P1
  go_wp2_with fail
  refine bodyPost_ret (v := .agg #[.slice A1 F.length c1, .slice A2 T.length c2, .int .i64 n, .slice A3 P.length c3]) (by simp [results, Try.results13, go_sem, hc1, hc2, hc3, x1, x2, x3, y1, y2, y3, z1, z2, z3]) rfl ⟨A1, c1, A2, c2, A3, c3, w1.heap.size, w2.heap.size, rfl, ?_, ?_, ?_, I1.out, I2.out, I3.out.up (Nat.le_refl _) (by simp), ⟨by omega, by omega, by simp; omega⟩, ?_⟩
  · refine own_base (base := w.heap.size + 1 + 1 + 1) ?_ (by omega)
    repeat (first | with_reducible exact Q1.out | (refine ownsRow_setCell_below ?_ (by (try dsimp only); omega) _))
  · refine own_base (base := w.heap.size + 1 + 1 + 1) ?_ (by omega)
    repeat (first | with_reducible exact Q2.out | (refine ownsRow_setCell_below ?_ (by (try dsimp only); omega) _))
  · refine own_base (base := w.heap.size + 1 + 1 + 1) ?_ (by omega)
    repeat (first | with_reducible exact O3.out | (refine ownsRow_setCell_below ?_ (by (try dsimp only); omega) _))
  · (repeat (first | exact Below.refl _ _ | assumption | (refine Below.alloc ?_ (by first | omega | (simp; done) | (simp; omega)) _) | (refine Below.setCell ?_ (by first | omega | (simp; done) | (simp; omega)) _) | (refine Below.drew ?_) | (refine Below.drewN ?_ _) | (refine Below.next (by assumption) ?_ (by first | omega | (simp; done) | (simp; omega)))))


def trEq (F T : List Sp) (n : Int) (P : List Int) (F' T' : List Sp) (n' : Int) (P' : List Int) : Bool := (((decide (F = F') && decide (T = T')) && decide (n = n')) && decide (P = P'))
theorem trEq_same (F T : List Sp) (n : Int) (P : List Int) : trEq F T n P F T n P = true := by simp [trEq]
set_option maxRecDepth 20000 in
set_option maxHeartbeats 3200000 in
theorem eqTransition_same (A : Option Addr) (c : Nat) (F : List Sp) (B : Option Addr) (d : Nat) (T : List Sp) (n : Int) (C : Option Addr) (f : Nat) (P : List Int) (A' : Option Addr) (c' : Nat) (B' : Option Addr) (d' : Nat) (C' : Option Addr) (f' : Nat) (w : World) (hf : Mem w A (spots F)) (ht : Mem w B (spots T)) (hp : Mem w C (ints P)) (hf' : Mem w A' (spots F)) (ht' : Mem w B' (spots T)) (hp' : Mem w C' (ints P)) (lf : F.length ≤ 1048576) (lt : T.length ≤ 1048576) (lp : P.length ≤ 1048576) :
    Calls Try.prog 17 #[.agg #[.slice A F.length c, .slice B T.length d, .int .i64 n, .slice C P.length f], .agg #[.slice A' F.length c', .slice B' T.length d', .int .i64 n, .slice C' P.length f']] w fun e w' => e = .returned (.bool true) ∧ Below w.heap.size w w' := by
  go_enter Try.func17, Try.ntmps17
  go_wp2_with fail
  refine (eqSpotS_any _ _ _ _ F F _ (hf.below (by (repeat (first | exact Below.refl _ _ | assumption | (refine Below.alloc ?_ (by first | omega | (simp; done) | (simp; omega)) _) | (refine Below.setCell ?_ (by first | omega | (simp; done) | (simp; omega)) _) | (refine Below.drew ?_) | (refine Below.drewN ?_ _) | (refine Below.next (by assumption) ?_ (by first | omega | (simp; done) | (simp; omega))))))) (hf'.below (by (repeat (first | exact Below.refl _ _ | assumption | (refine Below.alloc ?_ (by first | omega | (simp; done) | (simp; omega)) _) | (refine Below.setCell ?_ (by first | omega | (simp; done) | (simp; omega)) _) | (refine Below.drew ?_) | (refine Below.drewN ?_ _) | (refine Below.next (by assumption) ?_ (by first | omega | (simp; done) | (simp; omega))))))) lf lf).mono ?_
  rintro e w1 ⟨he, hq1⟩
  obtain rfl : e = .returned (.bool true) := he.trans (by simp)
  have m1_0_0 : w1.cell? ⟨w.heap.size, 0, none⟩ = some (.slice A F.length c) := (hq1.cell (by first | omega | (simp; done) | (simp; omega))).trans (by simp [go_sem])
  have m1_0_1 : w1.cell? ⟨w.heap.size, 1, none⟩ = some (.slice B T.length d) := (hq1.cell (by first | omega | (simp; done) | (simp; omega))).trans (by simp [go_sem])
  have m1_0_2 : w1.cell? ⟨w.heap.size, 2, none⟩ = some (.int .i64 n) := (hq1.cell (by first | omega | (simp; done) | (simp; omega))).trans (by simp [go_sem])
  have m1_0_3 : w1.cell? ⟨w.heap.size, 3, none⟩ = some (.slice C P.length f) := (hq1.cell (by first | omega | (simp; done) | (simp; omega))).trans (by simp [go_sem])
  have gz1_0 : w.heap.size < w1.heap.size := World.block_lt_of_cell? _ _ m1_0_0
  have m1_1_0 : w1.cell? ⟨w.heap.size + 1, 0, none⟩ = some (.slice A' F.length c') := (hq1.cell (by first | omega | (simp; done) | (simp; omega))).trans (by simp [go_sem])
  have m1_1_1 : w1.cell? ⟨w.heap.size + 1, 1, none⟩ = some (.slice B' T.length d') := (hq1.cell (by first | omega | (simp; done) | (simp; omega))).trans (by simp [go_sem])
  have m1_1_2 : w1.cell? ⟨w.heap.size + 1, 2, none⟩ = some (.int .i64 n) := (hq1.cell (by first | omega | (simp; done) | (simp; omega))).trans (by simp [go_sem])
  have m1_1_3 : w1.cell? ⟨w.heap.size + 1, 3, none⟩ = some (.slice C' P.length f') := (hq1.cell (by first | omega | (simp; done) | (simp; omega))).trans (by simp [go_sem])
  have gz1_1 : w.heap.size + 1 < w1.heap.size := World.block_lt_of_cell? _ _ m1_1_0
  have hb1 : Below w.heap.size w w1 := by (repeat (first | exact Below.refl _ _ | assumption | (refine Below.alloc ?_ (by first | omega | (simp; done) | (simp; omega)) _) | (refine Below.setCell ?_ (by first | omega | (simp; done) | (simp; omega)) _) | (refine Below.drew ?_) | (refine Below.drewN ?_ _) | (refine Below.next (by assumption) ?_ (by first | omega | (simp; done) | (simp; omega)))))
  go_wp2_with fail
  refine (eqSpotS_any _ _ _ _ T T _ (ht.below (by (repeat (first | exact Below.refl _ _ | assumption | (refine Below.alloc ?_ (by first | omega | (simp; done) | (simp; omega)) _) | (refine Below.setCell ?_ (by first | omega | (simp; done) | (simp; omega)) _) | (refine Below.drew ?_) | (refine Below.drewN ?_ _) | (refine Below.next (by assumption) ?_ (by first | omega | (simp; done) | (simp; omega))))))) (ht'.below (by (repeat (first | exact Below.refl _ _ | assumption | (refine Below.alloc ?_ (by first | omega | (simp; done) | (simp; omega)) _) | (refine Below.setCell ?_ (by first | omega | (simp; done) | (simp; omega)) _) | (refine Below.drew ?_) | (refine Below.drewN ?_ _) | (refine Below.next (by assumption) ?_ (by first | omega | (simp; done) | (simp; omega))))))) lt lt).mono ?_
  rintro e w2 ⟨he, hq2⟩
  obtain rfl : e = .returned (.bool true) := he.trans (by simp)
  have m2_0_0 : w2.cell? ⟨w.heap.size, 0, none⟩ = some (.slice A F.length c) := keep1 hq2 m1_0_0
  have m2_0_1 : w2.cell? ⟨w.heap.size, 1, none⟩ = some (.slice B T.length d) := keep1 hq2 m1_0_1
  have m2_0_2 : w2.cell? ⟨w.heap.size, 2, none⟩ = some (.int .i64 n) := keep1 hq2 m1_0_2
  have m2_0_3 : w2.cell? ⟨w.heap.size, 3, none⟩ = some (.slice C P.length f) := keep1 hq2 m1_0_3
  have gz2_0 : w.heap.size < w2.heap.size := World.block_lt_of_cell? _ _ m2_0_0
  have m2_1_0 : w2.cell? ⟨w.heap.size + 1, 0, none⟩ = some (.slice A' F.length c') := keep1 hq2 m1_1_0
  have m2_1_1 : w2.cell? ⟨w.heap.size + 1, 1, none⟩ = some (.slice B' T.length d') := keep1 hq2 m1_1_1
  have m2_1_2 : w2.cell? ⟨w.heap.size + 1, 2, none⟩ = some (.int .i64 n) := keep1 hq2 m1_1_2
  have m2_1_3 : w2.cell? ⟨w.heap.size + 1, 3, none⟩ = some (.slice C' P.length f') := keep1 hq2 m1_1_3
  have gz2_1 : w.heap.size + 1 < w2.heap.size := World.block_lt_of_cell? _ _ m2_1_0
  have hb2 : Below w.heap.size w w2 := by (repeat (first | exact Below.refl _ _ | assumption | (refine Below.alloc ?_ (by first | omega | (simp; done) | (simp; omega)) _) | (refine Below.setCell ?_ (by first | omega | (simp; done) | (simp; omega)) _) | (refine Below.drew ?_) | (refine Below.drewN ?_ _) | (refine Below.next (by assumption) ?_ (by first | omega | (simp; done) | (simp; omega)))))
  go_wp2_with fail
  refine (eqIntS_any _ _ _ _ P P _ (hp.below (by (repeat (first | exact Below.refl _ _ | assumption | (refine Below.alloc ?_ (by first | omega | (simp; done) | (simp; omega)) _) | (refine Below.setCell ?_ (by first | omega | (simp; done) | (simp; omega)) _) | (refine Below.drew ?_) | (refine Below.drewN ?_ _) | (refine Below.next (by assumption) ?_ (by first | omega | (simp; done) | (simp; omega))))))) (hp'.below (by (repeat (first | exact Below.refl _ _ | assumption | (refine Below.alloc ?_ (by first | omega | (simp; done) | (simp; omega)) _) | (refine Below.setCell ?_ (by first | omega | (simp; done) | (simp; omega)) _) | (refine Below.drew ?_) | (refine Below.drewN ?_ _) | (refine Below.next (by assumption) ?_ (by first | omega | (simp; done) | (simp; omega))))))) lp lp).mono ?_
  rintro e w3 ⟨he, hq3⟩
  obtain rfl : e = .returned (.bool true) := he.trans (by simp)
  have hb3 : Below w.heap.size w w3 := by (repeat (first | exact Below.refl _ _ | assumption | (refine Below.alloc ?_ (by first | omega | (simp; done) | (simp; omega)) _) | (refine Below.setCell ?_ (by first | omega | (simp; done) | (simp; omega)) _) | (refine Below.drew ?_) | (refine Below.drewN ?_ _) | (refine Below.next (by assumption) ?_ (by first | omega | (simp; done) | (simp; omega)))))
  go_wp2_with fail
  go_ret
  exact ⟨rfl, hb3⟩


theorem keepT {W w' : World} {p : Addr} {v : Value} {row : Option Nat} (hg : W.grownBy w' row) (h : W.cell? p = some v) (hr : ∀ k, row = some k → p.block ≠ k) : w'.cell? p = some v := hg.cell h (fun e => hr p.block e.symm rfl)
theorem grownT (w : World) (o : Obj) (row : Option Nat) : w.grownBy (w.alloc o) row := by
  have h := (Below.refl w.heap.size w).alloc (Nat.le_refl _) o
  exact ⟨h.os, h.tape, h.output, h.size, fun k hk _ => h.block k hk⟩
set_option maxRecDepth 20000 in
set_option maxHeartbeats 3200000 in
theorem markTransition_any (A : Option Addr) (c : Nat) (F : List Sp) (B : Option Addr) (d : Nat) (T : List Sp) (n : Int) (C : Option Addr) (f : Nat) (P : List Int) (base lo s1 s2 hi : Nat) (k0 : Int) (w : World) (ha : w.ownsRow base 73 2 (.slice A F.length c) F.length (spots F)) (hb : w.ownsRow base 73 2 (.slice B T.length d) T.length (spots T)) (hc : w.ownsRow base 3 1 (.slice C P.length f) P.length (ints P))
    (la : Lies lo s1 (.slice A F.length c)) (lb : Lies s1 s2 (.slice B T.length d)) (lc : Lies s2 hi (.slice C P.length f)) (h12 : s1 ≤ s2) (h2h : s2 ≤ hi) (hhi : hi ≤ w.heap.size) (lf : F.length ≤ 1048576) (lt : T.length ≤ 1048576) (lp : P.length ≤ 1048576) (h0 : 0 ≤ k0) (h1 : k0 ≤ 900000000) : Calls Try.prog 18 #[.agg #[.slice A F.length c, .slice B T.length d, .int .i64 n, .slice C P.length f], .int .i64 k0] w fun e w' =>
    ∃ v1 v2, e = .returned (.int .i64 (k0 + 2 * F.length + 2 * T.length + P.length)) ∧ v1.ownsRow base 73 2 (.slice A F.length c) F.length (spots (runS k0 F.length)) ∧ w.grownBy v1 (Value.slice A F.length c).ownBlock ∧
      v2.ownsRow base 73 2 (.slice B T.length d) T.length (spots (runS (k0 + 2 * F.length) T.length)) ∧ v1.grownBy v2 (Value.slice B T.length d).ownBlock ∧ w'.ownsRow base 3 1 (.slice C P.length f) P.length (ints (run (k0 + 2 * F.length + 2 * T.length) P.length)) ∧ v2.grownBy w' (Value.slice C P.length f).ownBlock := by
  go_enter Try.func18, Try.ntmps18
  go_wp2_with fail
  refine (markSpotS_any base _ _ F k0 _ (own_below ha (by (repeat (first | exact Below.refl _ _ | assumption | (refine Below.alloc ?_ (by first | omega | (simp; done) | (simp; omega)) _) | (refine Below.setCell ?_ (by first | omega | (simp; done) | (simp; omega)) _) | (refine Below.drew ?_) | (refine Below.drewN ?_ _) | (refine Below.next (by assumption) ?_ (by first | omega | (simp; done) | (simp; omega))))))) lf h0 (by omega)).mono ?_
  rintro e v1 ⟨rfl, ho1, hg1⟩
  have hz1 := hg1.size
  (try simp at hz1)
  have M0 : v1.cell? ⟨w.heap.size, 0, none⟩ = some (.slice A F.length c) := keepT hg1 (by simp [go_sem]) (fun k hk => by have a1 := la.lt k hk; (try dsimp only); omega)
  have M1 : v1.cell? ⟨w.heap.size, 1, none⟩ = some (.slice B T.length d) := keepT hg1 (by simp [go_sem]) (fun k hk => by have a1 := la.lt k hk; (try dsimp only); omega)
  have M3 : v1.cell? ⟨w.heap.size, 3, none⟩ = some (.slice C P.length f) := keepT hg1 (by simp [go_sem]) (fun k hk => by have a1 := la.lt k hk; (try dsimp only); omega)
  have B1 := own_kept (own_below hb (w' := (w.alloc (.cells #[.slice A F.length c, .slice B T.length d, .int .i64 n, .slice C P.length f] 31))) (by (repeat (first | exact Below.refl _ _ | assumption | (refine Below.alloc ?_ (by first | omega | (simp; done) | (simp; omega)) _) | (refine Below.setCell ?_ (by first | omega | (simp; done) | (simp; omega)) _) | (refine Below.drew ?_) | (refine Below.drewN ?_ _) | (refine Below.next (by assumption) ?_ (by first | omega | (simp; done) | (simp; omega))))))) hg1 (fun k hk j hj => by have a1 := la.lt k hk; have a2 := lb.lt j hj; omega)
  have C1 := own_kept (own_below hc (w' := (w.alloc (.cells #[.slice A F.length c, .slice B T.length d, .int .i64 n, .slice C P.length f] 31))) (by (repeat (first | exact Below.refl _ _ | assumption | (refine Below.alloc ?_ (by first | omega | (simp; done) | (simp; omega)) _) | (refine Below.setCell ?_ (by first | omega | (simp; done) | (simp; omega)) _) | (refine Below.drew ?_) | (refine Below.drewN ?_ _) | (refine Below.next (by assumption) ?_ (by first | omega | (simp; done) | (simp; omega))))))) hg1 (fun k hk j hj => by have a1 := la.lt k hk; have a2 := lc.lt j hj; omega)
  have G1 : Hid (w.grownBy v1 (Value.slice A F.length c).ownBlock) := Lib.hid (grown_trans (grownT _ _ _) hg1)
  have O1 := Lib.hid ho1
  clear ho1 hg1
  go_wp2_with fail
  refine (markSpotS_any base _ _ T _ _ B1 lt (by omega) (by omega)).mono ?_
  rintro e v2 ⟨rfl, ho2, hg2⟩
  have hz2 := hg2.size
  have N3 : v2.cell? ⟨w.heap.size, 3, none⟩ = some (.slice C P.length f) := keepT hg2 M3 (fun k hk => by have a1 := lb.lt k hk; (try dsimp only); omega)
  have C2 := own_kept C1 hg2 (fun k hk j hj => by have a1 := lb.lt k hk; have a2 := lc.lt j hj; omega)
  have G2 := Lib.hid hg2
  have O2 := Lib.hid ho2
  clear ho2 hg2 M0 M1 M3
  go_wp2_with fail
  refine (markIntS_any base _ _ P _ _ C2 lp (by omega) (by omega)).mono ?_
  rintro e v3 ⟨rfl, ho3, hg3⟩
  have G3 := Lib.hid hg3
  have O3 := Lib.hid ho3
  clear ho3 hg3 N3
  go_wp2_with fail
  go_ret
  exact ⟨v1, v2, rfl, O1.out, G1.out, O2.out, G2.out, O3.out, G3.out⟩
theorem Rd_trans {H : Type} (enc : TypeId × Value → H) (w : World) : Rd enc Try.prog w 25 4 (fun a : Hdr Sp × Hdr Sp × Int × Hdr Int => [Value.slice a.1.A a.1.L.length a.1.c] ++ [Value.slice a.2.1.A a.2.1.L.length a.2.1.c] ++ [Value.int .i64 a.2.2.1] ++ [Value.slice a.2.2.2.A a.2.2.2.L.length a.2.2.2.c])
    (fun a => okHdr w (fun s : Sp => [Value.int .i64 s.x, Value.int .i64 s.y]) okSp a.1 ∧ okHdr w (fun s : Sp => [Value.int .i64 s.x, Value.int .i64 s.y]) okSp a.2.1 ∧ okInt a.2.2.1 ∧ okHdr w (fun n : Int => [Value.int .i64 n]) okInt a.2.2.2) :=
  Rd_struct4 Try.underlying25 (by kernel_rfl) rfl rfl rfl rfl (Rd_slice Try.underlying22 (by kernel_rfl) (by omega) (Rd_spot enc w)) (Rd_slice Try.underlying22 (by kernel_rfl) (by omega) (Rd_spot enc w)) (Rd_i enc w) (Rd_slice Try.underlying23 (by kernel_rfl) (by omega) (Rd_i enc w))

end Go.Proofs.Ytjnkkeaknaoghaa
