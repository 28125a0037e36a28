/-
  Contracts: sheets copied, compared, counted; IsSheet, the program's and the reference's.
-/
import Derived.Test.YtdmgffcabjpihaaDoorShp
namespace Go.Proofs.YtdmgffcabjpihaaDoor
open Go.RowKit Go.Sort

theorem Rd_sheet {H : Type} (enc : TypeId × Value → H) (w : World) : Rd enc Tryd.prog w 26 4 (fun a : Int × Sp × Hdr Rw => [Value.int .i64 a.1] ++ [Value.int .i64 a.2.1.x, Value.int .i64 a.2.1.y] ++ [Value.slice a.2.2.A a.2.2.L.length a.2.2.c])
    (fun a => okInt a.1 ∧ okSp a.2.1 ∧ okHdr w (fun s : Rw => [Value.int .i64 s.c, Value.int .i64 s.t.x, Value.int .i64 s.t.y]) okRw a.2.2) :=
  Rd_struct3 Tryd.underlying26 (by kernel_rfl) rfl rfl rfl (Rd_i enc w) (Rd_spot enc w) (Rd_slice Tryd.underlying24 (by kernel_rfl) (by omega) (Rd_row enc w))
/-- A call hands back a sheet whose rows lie in memory of its own. -/
def RetSheet (w : World) (p : Int) (s : Sp) (L : List Rw) (e : Ending) (w' : World) : Prop :=
  ∃ A' c', e = .returned (.agg #[.int .i64 p, .int .i64 s.x, .int .i64 s.y, .slice A' L.length c']) ∧ w'.ownsRow w.heap.size 55 3 (.slice A' L.length c') L.length (rows L) ∧ Below w.heap.size w w'
theorem grown_alloc (w : World) (o : Obj) (row : Option Nat) : w.grownBy (w.alloc o) row := by
  have h := (Below.refl w.heap.size w).alloc (Nat.le_refl _) o
  exact ⟨h.os, h.tape, h.output, h.size, fun k hk _ => h.block k hk⟩
set_option maxRecDepth 100000 in
theorem szSheet_yes (p : Int) (s : Sp) (A : Option Addr) (n c : Nat) (left : Int) (w : World) (h : (n : Int) ≤ left) (h0 : 0 ≤ left) (h1 : left ≤ 1048576) : Calls Tryd.prog 5 #[.agg #[.int .i64 p, .int .i64 s.x, .int .i64 s.y, .slice A n c], .int .i64 left] w fun e w' =>
    e = .returned (.int .i64 (left - n)) ∧ Below w.heap.size w w' := by
  go_enter Tryd.func5, Tryd.ntmps5
  go_wp2_with (go_at_call 14; refine (szRowS_yes _ _ _ _ _ (by omega) (by omega) (by omega)).mono ?_; rintro e w' ⟨rfl, rfl⟩)
  go_ret
  exact ⟨rfl, by (repeat (first | exact Below.refl _ _ | assumption | (refine Below.alloc ?_ (by first | omega | (simp; done) | (simp; omega)) _) | (refine Below.setCell ?_ (by first | omega | (simp; done) | (simp; omega)) _) | (refine Below.drew ?_) | (refine Below.drewN ?_ _) | (refine Below.next (by assumption) ?_ (by first | omega | (simp; done) | (simp; omega)))))⟩
set_option maxRecDepth 100000 in
theorem szSheet_no (p : Int) (s : Sp) (A : Option Addr) (n c : Nat) (left : Int) (w : World) (h : left < (n : Int)) (hn : n ≤ 9223372036854775807) (h0 : 0 ≤ left) (h1 : left ≤ 1048576) : Calls Tryd.prog 5 #[.agg #[.int .i64 p, .int .i64 s.x, .int .i64 s.y, .slice A n c], .int .i64 left] w fun e w' =>
    e = .returned (.int .i64 (-1)) ∧ Below w.heap.size w w' := by
  go_enter Tryd.func5, Tryd.ntmps5
  go_wp2_with (go_at_call 14; refine (szRowS_no _ _ _ _ _ (by omega) (by omega) (by omega) (by omega)).mono ?_; rintro e w' ⟨rfl, rfl⟩)
  go_ret
  exact ⟨rfl, by (repeat (first | exact Below.refl _ _ | assumption | (refine Below.alloc ?_ (by first | omega | (simp; done) | (simp; omega)) _) | (refine Below.setCell ?_ (by first | omega | (simp; done) | (simp; omega)) _) | (refine Below.drew ?_) | (refine Below.drewN ?_ _) | (refine Below.next (by assumption) ?_ (by first | omega | (simp; done) | (simp; omega)))))⟩
set_option maxHeartbeats 1600000 in
set_option maxRecDepth 100000 in
theorem toSheet_any (p : Int) (s : Sp) (A : Option Addr) (c : Nat) (L : List Rw) (w : World) (hm : Mem w A (rows L)) (hl : L.length ≤ 1048576) : Calls Tryd.prog 7 #[.agg #[.int .i64 p, .int .i64 s.x, .int .i64 s.y, .slice A L.length c]] w (RetSheet w p s L) := by
  go_enter Tryd.func7, Tryd.ntmps7
  go_wp2_with fail
  refine (toSpot_any s _).mono ?_
  rintro e w' ⟨rfl, hq⟩
  obtain ⟨hz, hc, hf⟩ := bel hq
  simp at hz
  have g1 : w.heap.size < w'.heap.size := by omega
  have g2 : w.heap.size + 1 < w'.heap.size := by omega
  have g3 : w.heap.size + 1 + 1 < w'.heap.size := by omega
  go_wp2_with fail
  refine (toRowS_any _ _ _ _ (hm.below (by (repeat (first | exact Below.refl _ _ | assumption | (refine Below.alloc ?_ (by first | omega | (simp; done) | (simp; omega)) _) | (refine Below.setCell ?_ (by first | omega | (simp; done) | (simp; omega)) _) | (refine Below.drew ?_) | (refine Below.drewN ?_ _) | (refine Below.next (by assumption) ?_ (by first | omega | (simp; done) | (simp; omega))))))) hl).mono ?_
  rintro e w2 ⟨A2, c2, rfl, ho, hq2⟩
  obtain ⟨hz2, hc2, hf2⟩ := bel hq2
  (try simp at hz2)
  have g4 : w.heap.size + 1 < w2.heap.size := by omega
  have g5 : w.heap.size + 1 + 1 < w2.heap.size := by omega
  go_wp2
  have hb : Below w.heap.size w w2 := by (repeat (first | exact Below.refl _ _ | assumption | (refine Below.alloc ?_ (by first | omega | (simp; done) | (simp; omega)) _) | (refine Below.setCell ?_ (by first | omega | (simp; done) | (simp; omega)) _) | (refine Below.drew ?_) | (refine Below.drewN ?_ _) | (refine Below.next (by assumption) ?_ (by first | omega | (simp; done) | (simp; omega)))))
  have HO := Lib.hid (own_base ho (base' := w'.heap.size) (by simp))
  clear ho
  refine bodyPost_ret (v := .agg #[.int .i64 p, .int .i64 s.x, .int .i64 s.y, .slice A2 L.length c2]) (by simp [results, Tryd.results7, go_sem, hc, hc2, g1, g2, g3, g4, g5]) rfl ⟨A2, c2, rfl, ?_, ?_⟩
  · refine own_base (base := w'.heap.size) ?_ (by omega)
    repeat (first | with_reducible exact HO.out | (refine ownsRow_setCell_below ?_ (by (try dsimp only); omega) _))
  · (repeat (first | exact Below.refl _ _ | assumption | (refine Below.alloc ?_ (by first | omega | (simp; done) | (simp; omega)) _) | (refine Below.setCell ?_ (by first | omega | (simp; done) | (simp; omega)) _) | (refine Below.drew ?_) | (refine Below.drewN ?_ _) | (refine Below.next (by assumption) ?_ (by first | omega | (simp; done) | (simp; omega)))))
def shEq (p q : Int) (s t : Sp) (L M : List Rw) : Bool := (decide (p = q) && decide (s = t)) && decide (L = M)
theorem shEq_same (p : Int) (s : Sp) (L : List Rw) : shEq p p s s L L = true := by simp [shEq]
set_option maxHeartbeats 800000 in
set_option maxRecDepth 100000 in
theorem eqSheet_any (p q : Int) (s t : Sp) (A B : Option Addr) (c d : Nat) (L M : List Rw) (w : World) (hm : Mem w A (rows L)) (hn : Mem w B (rows M)) (hl : L.length ≤ 1048576) (hl2 : M.length ≤ 1048576) :
    Calls Tryd.prog 9 #[.agg #[.int .i64 p, .int .i64 s.x, .int .i64 s.y, .slice A L.length c], .agg #[.int .i64 q, .int .i64 t.x, .int .i64 t.y, .slice B M.length d]] w fun e w' => e = .returned (.bool (shEq p q s t L M)) ∧ Below w.heap.size w w' := by
  by_cases h1 : p = q
  · subst h1
    cases h2 : decide (s = t)
    · have H2 := Lib.hid h2
      clear h2
      go_enter Tryd.func9, Tryd.ntmps9
      go_wp2_with (go_at_call 21; refine (eqSpot_any s t _).mono ?_; rintro e w' ⟨he, o1, o2, rfl⟩; rw [H2.out] at he; subst he)
      go_ret
      exact ⟨ret_bool (by rw [shEq, H2.out]; simp), by (repeat (first | exact Below.refl _ _ | assumption | (refine Below.alloc ?_ (by first | omega | (simp; done) | (simp; omega)) _) | (refine Below.setCell ?_ (by first | omega | (simp; done) | (simp; omega)) _) | (refine Below.drew ?_) | (refine Below.drewN ?_ _) | (refine Below.next (by assumption) ?_ (by first | omega | (simp; done) | (simp; omega)))))⟩
    · have H2 := Lib.hid h2
      clear h2
      have e3 : Hid (shEq p p s t L M = decide (L = M)) := Lib.hid (by rw [shEq, H2.out]; simp)
      cases h3 : decide (L = M)
      all_goals
        have H3 := Lib.hid h3
        clear h3
        go_enter Tryd.func9, Tryd.ntmps9
        go_wp2_with (first | (go_at_call 21; refine (eqSpot_any s t _).mono ?_; rintro e w' ⟨he, o1, o2, rfl⟩; rw [H2.out] at he; subst he) | (go_at_call 22; refine (eqRowS_any _ _ _ _ _ _ _ (hm.below (by (repeat (first | exact Below.refl _ _ | assumption | (refine Below.alloc ?_ (by first | omega | (simp; done) | (simp; omega)) _) | (refine Below.setCell ?_ (by first | omega | (simp; done) | (simp; omega)) _) | (refine Below.drew ?_) | (refine Below.drewN ?_ _) | (refine Below.next (by assumption) ?_ (by first | omega | (simp; done) | (simp; omega))))))) (hn.below (by (repeat (first | exact Below.refl _ _ | assumption | (refine Below.alloc ?_ (by first | omega | (simp; done) | (simp; omega)) _) | (refine Below.setCell ?_ (by first | omega | (simp; done) | (simp; omega)) _) | (refine Below.drew ?_) | (refine Below.drewN ?_ _) | (refine Below.next (by assumption) ?_ (by first | omega | (simp; done) | (simp; omega))))))) hl hl2).mono ?_; rintro e w' ⟨he, hq⟩; rw [H3.out] at he; subst he))
        go_ret
        exact ⟨ret_bool (by rw [e3.out, H3.out]), by (repeat (first | exact Below.refl _ _ | assumption | (refine Below.alloc ?_ (by first | omega | (simp; done) | (simp; omega)) _) | (refine Below.setCell ?_ (by first | omega | (simp; done) | (simp; omega)) _) | (refine Below.drew ?_) | (refine Below.drewN ?_ _) | (refine Below.next (by assumption) ?_ (by first | omega | (simp; done) | (simp; omega)))))⟩
  · have h2 : (p != q) = true := by simpa using h1
    have H1 := Lib.hid h1
    clear h1
    go_enter Tryd.func9, Tryd.ntmps9
    go_wp2
    go_ret
    exact ⟨ret_bool (by rw [shEq, decide_eq_false H1.out]; rfl), by (repeat (first | exact Below.refl _ _ | assumption | (refine Below.alloc ?_ (by first | omega | (simp; done) | (simp; omega)) _) | (refine Below.setCell ?_ (by first | omega | (simp; done) | (simp; omega)) _) | (refine Below.drew ?_) | (refine Below.drewN ?_ _) | (refine Below.next (by assumption) ?_ (by first | omega | (simp; done) | (simp; omega)))))⟩
set_option maxRecDepth 100000 in
theorem markSheet_any (p : Int) (s : Sp) (base : Nat) (A : Option Addr) (c : Nat) (L : List Rw) (k0 : Int) (w : World) (hown : w.ownsRow base 55 3 (.slice A L.length c) L.length (rows L)) (hl : L.length ≤ 1048576) (h0 : 0 ≤ k0) (h1 : k0 ≤ 1000000000) (hb : base ≤ w.heap.size) : Calls Tryd.prog 12 #[.agg #[.int .i64 p, .int .i64 s.x, .int .i64 s.y, .slice A L.length c], .int .i64 k0] w fun e w' =>
    e = .returned (.int .i64 (k0 + 3 * L.length)) ∧ w'.ownsRow base 55 3 (.slice A L.length c) L.length (rows (runRw k0 L.length)) ∧ w.grownBy w' (Value.slice A L.length c).ownBlock := by
  go_enter Tryd.func12, Tryd.ntmps12
  go_wp2_with fail
  refine (markRowS_any base _ _ L k0 _ (hown.alloc _) hl h0 h1).mono ?_
  rintro e w2 ⟨rfl, ho, hg⟩
  have HO := Lib.hid ho
  have HG : Hid (w.grownBy w2 (Value.slice A L.length c).ownBlock) := Lib.hid (grown_trans (grown_alloc _ _ _) hg)
  clear ho hg
  go_wp2_with fail
  go_ret
  exact ⟨rfl, HO.out, HG.out⟩
set_option maxRecDepth 100000 in
theorem heldSheet_any (p : Int) (s : Sp) (A : Option Addr) (n c : Nat) (k0 : Int) (w : World) (hm : Mem w A (rows (runRw k0 n))) (hl : n ≤ 1048576) (h0 : 0 ≤ k0) (h1 : k0 ≤ 1000000000) : Calls Tryd.prog 13 #[.agg #[.int .i64 p, .int .i64 s.x, .int .i64 s.y, .slice A n c], .int .i64 k0] w fun e w' =>
    e = .returned (.int .i64 (k0 + 3 * n)) ∧ Below w.heap.size w w' := by
  go_enter Tryd.func13, Tryd.ntmps13
  go_wp2_with (go_at_call 34; refine (heldRowS_any _ _ _ _ _ (hm.below (by (repeat (first | exact Below.refl _ _ | assumption | (refine Below.alloc ?_ (by first | omega | (simp; done) | (simp; omega)) _) | (refine Below.setCell ?_ (by first | omega | (simp; done) | (simp; omega)) _) | (refine Below.drew ?_) | (refine Below.drewN ?_ _) | (refine Below.next (by assumption) ?_ (by first | omega | (simp; done) | (simp; omega))))))) hl h0 h1).mono ?_; rintro e w' ⟨rfl, rfl⟩)
  go_ret
  exact ⟨rfl, by (repeat (first | exact Below.refl _ _ | assumption | (refine Below.alloc ?_ (by first | omega | (simp; done) | (simp; omega)) _) | (refine Below.setCell ?_ (by first | omega | (simp; done) | (simp; omega)) _) | (refine Below.drew ?_) | (refine Below.drewN ?_ _) | (refine Below.next (by assumption) ?_ (by first | omega | (simp; done) | (simp; omega)))))⟩

set_option maxHeartbeats 1600000 in
set_option maxRecDepth 100000 in
theorem shGood_any (p : Int) (s : Sp) (A : Option Addr) (c : Nat) (L : List Rw) (w : World) (hm : Mem w A (rows L)) (hl : L.length ≤ 1048576) : Calls Tryd.prog 15 #[.agg #[.int .i64 p, .int .i64 s.x, .int .i64 s.y, .slice A L.length c]] w fun e w' => e = .returned (.bool (shOk p s L)) ∧ Below w.heap.size w w' := by
  have e0 : Hid (L.all isRw = false → shOk p s L = false) := Lib.hid (fun h => by simp [shOk, h])
  have e1 : Hid (L.all isRw = true → shOk p s L = ((inR p 0 11 && isSp s) && decide (L.length ≤ 8))) := Lib.hid (fun h => by simp [shOk, h])
  go_enter Tryd.func15, Tryd.ntmps15
  go_wp2
  go_loopw [4, 8] (fun _ i wr => ∃ k : Nat, k ≤ L.length ∧ i = .int .i64 k ∧ Below (w.heap.size + 1) (w.alloc (.cells #[.int .i64 p, .int .i64 s.x, .int .i64 s.y, .slice A L.length c] 33)) wr ∧ Hid ((L.take k).all isRw = true)) (fun _ i _ => L.length - (intOf i).toNat)
  case atStart => exact ⟨0, by omega, rfl, by (repeat (first | exact Below.refl _ _ | assumption | (refine Below.alloc ?_ (by first | omega | (simp; done) | (simp; omega)) _) | (refine Below.setCell ?_ (by first | omega | (simp; done) | (simp; omega)) _) | (refine Below.drew ?_) | (refine Below.drewN ?_ _) | (refine Below.next (by assumption) ?_ (by first | omega | (simp; done) | (simp; omega))))), all_take_zero _ _⟩
  case round =>
    obtain ⟨k, hk, rfl, hbx, H⟩ := hrel
    obtain ⟨hb, hsz⟩ := boxed hbx
    have q0 : wr.cell? ⟨w.heap.size, 0, none⟩ = some (.int .i64 p) := boxed_cell hbx 0
    have q1 : wr.cell? ⟨w.heap.size, 1, none⟩ = some (.int .i64 s.x) := boxed_cell hbx 1
    have q2 : wr.cell? ⟨w.heap.size, 2, none⟩ = some (.int .i64 s.y) := boxed_cell hbx 2
    have q3 : wr.cell? ⟨w.heap.size, 3, none⟩ = some (.slice A L.length c) := boxed_cell hbx 3
    by_cases hlt : k < L.length
    · obtain ⟨r, hr⟩ := some_of_lt hlt
      obtain ⟨b, off, rfl, h1, h2, h3⟩ := (hm.below hb).row hr
      have HS := Lib.hid hr
      clear hr
      cases hi : inR r.c 1 64
      · have HI := Lib.hid (show isRw r = false by simp [isRw, hi])
        go_wp2_with (first | (go_at_call 24; refine (l1In_any _ _ _ _).mono ?_; rintro e w' ⟨rfl, rfl⟩) | (go_at_call 35; refine (stGood_any _ _).mono ?_; rintro e w' ⟨rfl, o, rfl⟩))
        go_ret
        exact ⟨ret_bool (by rw [e0.out (all_no HS HI.out)]), by (repeat (first | exact Below.refl _ _ | assumption | (refine Below.alloc ?_ (by first | omega | (simp; done) | (simp; omega)) _) | (refine Below.setCell ?_ (by first | omega | (simp; done) | (simp; omega)) _) | (refine Below.drew ?_) | (refine Below.drewN ?_ _) | (refine Below.next (by assumption) ?_ (by first | omega | (simp; done) | (simp; omega)))))⟩
      · cases hg : isSp r.t
        · have HI := Lib.hid (show isRw r = false by simp [isRw, hg])
          go_wp2_with (first | (go_at_call 24; refine (l1In_any _ _ _ _).mono ?_; rintro e w' ⟨rfl, rfl⟩) | (go_at_call 35; refine (stGood_any _ _).mono ?_; rintro e w' ⟨rfl, o, rfl⟩))
          go_ret
          exact ⟨ret_bool (by rw [e0.out (all_no HS HI.out)]), by (repeat (first | exact Below.refl _ _ | assumption | (refine Below.alloc ?_ (by first | omega | (simp; done) | (simp; omega)) _) | (refine Below.setCell ?_ (by first | omega | (simp; done) | (simp; omega)) _) | (refine Below.drew ?_) | (refine Below.drewN ?_ _) | (refine Below.next (by assumption) ?_ (by first | omega | (simp; done) | (simp; omega)))))⟩
        · have HI := Lib.hid (show isRw r = true by simp [isRw, hi, hg])
          go_wp2_with (first | (go_at_call 24; refine (l1In_any _ _ _ _).mono ?_; rintro e w' ⟨rfl, rfl⟩) | (go_at_call 35; refine (stGood_any _ _).mono ?_; rintro e w' ⟨rfl, o, rfl⟩))
          go_roundw
          case rel => exact ⟨k + 1, by omega, by go_num, by (repeat (first | exact Below.refl _ _ | assumption | (refine Below.alloc ?_ (by first | omega | (simp; done) | (simp; omega)) _) | (refine Below.setCell ?_ (by first | omega | (simp; done) | (simp; omega)) _) | (refine Below.drew ?_) | (refine Below.drewN ?_ _) | (refine Below.next (by assumption) ?_ (by first | omega | (simp; done) | (simp; omega))))), all_take_succ H HS HI.out⟩
          case measure => simp [intOf]; omega
    · have e2 := Lib.hid (e1.out (all_yes H (by omega)))
      cases hi : inR p 0 11
      · have HI := Lib.hid hi
        go_wp2_with (first | (go_at_call 24; refine (l1In_any _ _ _ _).mono ?_; rintro e w' ⟨rfl, rfl⟩) | (go_at_call 35; refine (stGood_any _ _).mono ?_; rintro e w' ⟨rfl, o, rfl⟩))
        go_ret
        exact ⟨ret_bool (by rw [e2.out, HI.out]; rfl), by (repeat (first | exact Below.refl _ _ | assumption | (refine Below.alloc ?_ (by first | omega | (simp; done) | (simp; omega)) _) | (refine Below.setCell ?_ (by first | omega | (simp; done) | (simp; omega)) _) | (refine Below.drew ?_) | (refine Below.drewN ?_ _) | (refine Below.next (by assumption) ?_ (by first | omega | (simp; done) | (simp; omega)))))⟩
      · cases hg : isSp s
        · have HI := Lib.hid hg
          go_wp2_with (first | (go_at_call 24; refine (l1In_any _ _ _ _).mono ?_; rintro e w' ⟨rfl, rfl⟩) | (go_at_call 35; refine (stGood_any _ _).mono ?_; rintro e w' ⟨rfl, o, rfl⟩))
          go_ret
          exact ⟨ret_bool (by rw [e2.out, HI.out]; simp), by (repeat (first | exact Below.refl _ _ | assumption | (refine Below.alloc ?_ (by first | omega | (simp; done) | (simp; omega)) _) | (refine Below.setCell ?_ (by first | omega | (simp; done) | (simp; omega)) _) | (refine Below.drew ?_) | (refine Below.drewN ?_ _) | (refine Below.next (by assumption) ?_ (by first | omega | (simp; done) | (simp; omega)))))⟩
        · have HI := Lib.hid hi
          have HG := Lib.hid hg
          go_wp2_with (first | (go_at_call 24; refine (l1In_any _ _ _ _).mono ?_; rintro e w' ⟨rfl, rfl⟩) | (go_at_call 35; refine (stGood_any _ _).mono ?_; rintro e w' ⟨rfl, o, rfl⟩))
          go_ret
          exact ⟨ret_bool (by rw [e2.out, HI.out, HG.out]; simp; omega), by (repeat (first | exact Below.refl _ _ | assumption | (refine Below.alloc ?_ (by first | omega | (simp; done) | (simp; omega)) _) | (refine Below.setCell ?_ (by first | omega | (simp; done) | (simp; omega)) _) | (refine Below.drew ?_) | (refine Below.drewN ?_ _) | (refine Below.next (by assumption) ?_ (by first | omega | (simp; done) | (simp; omega)))))⟩
set_option maxHeartbeats 1600000 in
set_option maxRecDepth 100000 in
theorem IsSheet_any (p : Int) (s : Sp) (A : Option Addr) (c : Nat) (L : List Rw) (w : World) (hm : Mem w A (rows L)) (hl : L.length ≤ 1048576) : Calls Tryd.prog 19 #[.agg #[.int .i64 p, .int .i64 s.x, .int .i64 s.y, .slice A L.length c]] w fun e w' => e = .returned (.bool (shOk p s L)) ∧ Below w.heap.size w w' := by
  cases hi : inR p 0 11
  · have e0 := Lib.hid (show shOk p s L = false by simp [shOk, hi])
    go_enter Tryd.func19, Tryd.ntmps19
    go_wp2_with (first | (go_at_call 28; refine (within_any _ _ _ _).mono ?_; rintro e w' ⟨rfl, rfl⟩) | (go_at_call 39; refine (isSpot_any _ _).mono ?_; rintro e w' ⟨rfl, o, rfl⟩))
    go_ret
    exact ⟨ret_bool e0.out.symm, by (repeat (first | exact Below.refl _ _ | assumption | (refine Below.alloc ?_ (by first | omega | (simp; done) | (simp; omega)) _) | (refine Below.setCell ?_ (by first | omega | (simp; done) | (simp; omega)) _) | (refine Below.drew ?_) | (refine Below.drewN ?_ _) | (refine Below.next (by assumption) ?_ (by first | omega | (simp; done) | (simp; omega)))))⟩
  cases hg : isSp s
  · have e0 := Lib.hid (show shOk p s L = false by simp [shOk, hg])
    go_enter Tryd.func19, Tryd.ntmps19
    go_wp2_with (first | (go_at_call 28; refine (within_any _ _ _ _).mono ?_; rintro e w' ⟨rfl, rfl⟩) | (go_at_call 39; refine (isSpot_any _ _).mono ?_; rintro e w' ⟨rfl, o, rfl⟩))
    go_ret
    exact ⟨ret_bool e0.out.symm, by (repeat (first | exact Below.refl _ _ | assumption | (refine Below.alloc ?_ (by first | omega | (simp; done) | (simp; omega)) _) | (refine Below.setCell ?_ (by first | omega | (simp; done) | (simp; omega)) _) | (refine Below.drew ?_) | (refine Below.drewN ?_ _) | (refine Below.next (by assumption) ?_ (by first | omega | (simp; done) | (simp; omega)))))⟩
  by_cases h8 : 8 < L.length
  · have e0 := Lib.hid (show shOk p s L = false by simp [shOk]; omega)
    go_enter Tryd.func19, Tryd.ntmps19
    go_wp2_with (first | (go_at_call 28; refine (within_any _ _ _ _).mono ?_; rintro e w' ⟨rfl, rfl⟩) | (go_at_call 39; refine (isSpot_any _ _).mono ?_; rintro e w' ⟨rfl, o, rfl⟩))
    go_ret
    exact ⟨ret_bool e0.out.symm, by (repeat (first | exact Below.refl _ _ | assumption | (refine Below.alloc ?_ (by first | omega | (simp; done) | (simp; omega)) _) | (refine Below.setCell ?_ (by first | omega | (simp; done) | (simp; omega)) _) | (refine Below.drew ?_) | (refine Below.drewN ?_ _) | (refine Below.next (by assumption) ?_ (by first | omega | (simp; done) | (simp; omega)))))⟩
  have e1 : Hid (shOk p s L = L.all isRw) := Lib.hid (by have : L.length ≤ 8 := by omega
                                                         simp [shOk, hi, hg, this])
  go_enter Tryd.func19, Tryd.ntmps19
  go_wp2_with (first | (go_at_call 28; refine (within_any _ _ _ _).mono ?_; rintro e w' ⟨rfl, rfl⟩) | (go_at_call 39; refine (isSpot_any _ _).mono ?_; rintro e w' ⟨rfl, o, rfl⟩))
  have hB0 : Below (w.heap.size + 1) (w.alloc (.cells #[.int .i64 p, .int .i64 s.x, .int .i64 s.y, .slice A L.length c] 33)) ((w.alloc (.cells #[.int .i64 p, .int .i64 s.x, .int .i64 s.y, .slice A L.length c] 33)).alloc o) := by (repeat (first | exact Below.refl _ _ | assumption | (refine Below.alloc ?_ (by first | omega | (simp; done) | (simp; omega)) _) | (refine Below.setCell ?_ (by first | omega | (simp; done) | (simp; omega)) _) | (refine Below.drew ?_) | (refine Below.drewN ?_ _) | (refine Below.next (by assumption) ?_ (by first | omega | (simp; done) | (simp; omega)))))
  go_loopw [4, 24] (fun _ i wr => ∃ k : Nat, k ≤ L.length ∧ i = .int .i64 k ∧ Below (w.heap.size + 1) (w.alloc (.cells #[.int .i64 p, .int .i64 s.x, .int .i64 s.y, .slice A L.length c] 33)) wr ∧ Hid ((L.take k).all isRw = true)) (fun _ i _ => L.length - (intOf i).toNat)
  case atStart => exact ⟨0, by omega, rfl, hB0, all_take_zero _ _⟩
  case round =>
    obtain ⟨k, hk, rfl, hbx, H⟩ := hrel
    obtain ⟨hb, hsz⟩ := boxed hbx
    by_cases hlt : k < L.length
    · obtain ⟨r, hr⟩ := some_of_lt hlt
      obtain ⟨b, off, rfl, h1, h2, h3⟩ := (hm.below hb).row hr
      have HS := Lib.hid hr
      clear hr
      cases hi : inR r.c 1 64
      · have HI := Lib.hid (show isRw r = false by simp [isRw, hi])
        go_wp2_with (first | (go_at_call 28; refine (within_any _ _ _ _).mono ?_; rintro e w' ⟨rfl, rfl⟩) | (go_at_call 39; refine (isSpot_any _ _).mono ?_; rintro e w' ⟨rfl, o, rfl⟩))
        go_ret
        exact ⟨ret_bool (by rw [e1.out, all_no HS HI.out]), by (repeat (first | exact Below.refl _ _ | assumption | (refine Below.alloc ?_ (by first | omega | (simp; done) | (simp; omega)) _) | (refine Below.setCell ?_ (by first | omega | (simp; done) | (simp; omega)) _) | (refine Below.drew ?_) | (refine Below.drewN ?_ _) | (refine Below.next (by assumption) ?_ (by first | omega | (simp; done) | (simp; omega)))))⟩
      · cases hg : isSp r.t
        · have HI := Lib.hid (show isRw r = false by simp [isRw, hg])
          go_wp2_with (first | (go_at_call 28; refine (within_any _ _ _ _).mono ?_; rintro e w' ⟨rfl, rfl⟩) | (go_at_call 39; refine (isSpot_any _ _).mono ?_; rintro e w' ⟨rfl, o, rfl⟩))
          go_ret
          exact ⟨ret_bool (by rw [e1.out, all_no HS HI.out]), by (repeat (first | exact Below.refl _ _ | assumption | (refine Below.alloc ?_ (by first | omega | (simp; done) | (simp; omega)) _) | (refine Below.setCell ?_ (by first | omega | (simp; done) | (simp; omega)) _) | (refine Below.drew ?_) | (refine Below.drewN ?_ _) | (refine Below.next (by assumption) ?_ (by first | omega | (simp; done) | (simp; omega)))))⟩
        · have HI := Lib.hid (show isRw r = true by simp [isRw, hi, hg])
          go_wp2_with (first | (go_at_call 28; refine (within_any _ _ _ _).mono ?_; rintro e w' ⟨rfl, rfl⟩) | (go_at_call 39; refine (isSpot_any _ _).mono ?_; rintro e w' ⟨rfl, o, rfl⟩))
          go_roundw
          case rel => exact ⟨k + 1, by omega, by go_num, by (repeat (first | exact Below.refl _ _ | assumption | (refine Below.alloc ?_ (by first | omega | (simp; done) | (simp; omega)) _) | (refine Below.setCell ?_ (by first | omega | (simp; done) | (simp; omega)) _) | (refine Below.drew ?_) | (refine Below.drewN ?_ _) | (refine Below.next (by assumption) ?_ (by first | omega | (simp; done) | (simp; omega))))), all_take_succ H HS HI.out⟩
          case measure => simp [intOf]; omega
    · go_wp2
      go_ret
      exact ⟨ret_bool (by rw [e1.out, all_yes H (by omega)]), hb⟩
end Go.Proofs.YtdmgffcabjpihaaDoor
