/-
  Contracts: sheets copied, compared, counted; IsSheet, the program's and the reference's.
-/
import Derived.Test.YtdmgffcabjpihaaGreatDoorShp
namespace Go.Proofs.YtdmgffcabjpihaaGreatDoor
open Go.RowKit Go.Sort

/-- A call hands back a sheet whose rows lie in memory of its own. -/
def RetSheet (w : World) (p : Int) (s : Sp) (L : List Rw) (e : Ending) (w' : World) : Prop :=
  ∃ A' c', e = .returned (.agg #[.int .i64 p, .int .i64 s.x, .int .i64 s.y, .slice A' L.length c']) ∧ w'.ownsRow w.heap.size 46 3 (.slice A' L.length c') L.length (rows L) ∧ Below w.heap.size w w'
theorem grown_alloc (w : World) (o : Obj) (row : Option Nat) : w.grownBy (w.alloc o) row := by
  have h := (Below.refl w.heap.size w).alloc (Nat.le_refl _) o
  exact ⟨h.os, h.tape, h.output, h.size, fun k hk _ => h.block k hk⟩

set_option maxHeartbeats 1600000 in
set_option maxRecDepth 100000 in
theorem shGood_any (p : Int) (s : Sp) (A : Option Addr) (c : Nat) (L : List Rw) (w : World) (hm : Mem w A (rows L)) (hl : L.length ≤ 1048576) : Calls Tryz.prog 28 #[.agg #[.int .i64 p, .int .i64 s.x, .int .i64 s.y, .slice A L.length c]] w fun e w' => e = .returned (.bool (shOk p s L)) ∧ Below w.heap.size w w' := by
  have e0 : Hid (L.all isRw = false → shOk p s L = false) := Lib.hid (fun h => by simp [shOk, h])
  have e1 : Hid (L.all isRw = true → shOk p s L = ((inR p 0 11 && isSp s) && decide (L.length ≤ 8))) := Lib.hid (fun h => by simp [shOk, h])
  go_enter Tryz.func28, Tryz.ntmps28
  go_wp2
  go_loopw [4, 8] (fun _ i wr => ∃ k : Nat, k ≤ L.length ∧ i = .int .i64 k ∧ Below (w.heap.size + 1) (w.alloc (.cells #[.int .i64 p, .int .i64 s.x, .int .i64 s.y, .slice A L.length c] 28)) wr ∧ Hid ((L.take k).all isRw = true)) (fun _ i _ => L.length - (intOf i).toNat)
  case atStart => exact ⟨0, by omega, rfl, by (repeat (first | exact Below.refl _ _ | assumption | (refine Below.alloc ?_ (by first | omega | (simp; done) | (simp; omega)) _) | (refine Below.setCell ?_ (by first | omega | (simp; done) | (simp; omega)) _) | (refine Below.drew ?_) | (refine Below.drewN ?_ _) | (refine Below.next (by assumption) ?_ (by first | omega | (simp; done) | (simp; omega))))), all_take_zero _ _⟩
  case round =>
    obtain ⟨k, hk, rfl, hbx, H⟩ := hrel
    obtain ⟨hb, hsz⟩ := boxed hbx
    have q0 : wr.cell? ⟨w.heap.size, 0, none⟩ = some (.int .i64 p) := boxed_cell hbx 0
    have q1 : wr.cell? ⟨w.heap.size, 1, none⟩ = some (.int .i64 s.x) := boxed_cell hbx 1
    have q2 : wr.cell? ⟨w.heap.size, 2, none⟩ = some (.int .i64 s.y) := boxed_cell hbx 2
    have q3 : wr.cell? ⟨w.heap.size, 3, none⟩ = some (.slice A L.length c) := boxed_cell hbx 3
    by_cases hlt : k < L.length
    · obtain ⟨r, hr⟩ := some_of_lt hlt
      obtain ⟨b, off, rfl, h1, h2, h3⟩ := (hm.below hb).row hr
      have HS := Lib.hid hr
      clear hr
      cases hi : inR r.c 1 64
      · have HI := Lib.hid (show isRw r = false by simp [isRw, hi])
        go_wp2_with (first | (go_at_call 49; refine (l1In_any _ _ _ _).mono ?_; rintro e w' ⟨rfl, rfl⟩) | (go_at_call 57; refine (stGood_any _ _).mono ?_; rintro e w' ⟨rfl, o, rfl⟩))
        go_ret
        exact ⟨ret_bool (by rw [e0.out (all_no HS HI.out)]), by (repeat (first | exact Below.refl _ _ | assumption | (refine Below.alloc ?_ (by first | omega | (simp; done) | (simp; omega)) _) | (refine Below.setCell ?_ (by first | omega | (simp; done) | (simp; omega)) _) | (refine Below.drew ?_) | (refine Below.drewN ?_ _) | (refine Below.next (by assumption) ?_ (by first | omega | (simp; done) | (simp; omega)))))⟩
      · cases hg : isSp r.t
        · have HI := Lib.hid (show isRw r = false by simp [isRw, hg])
          go_wp2_with (first | (go_at_call 49; refine (l1In_any _ _ _ _).mono ?_; rintro e w' ⟨rfl, rfl⟩) | (go_at_call 57; refine (stGood_any _ _).mono ?_; rintro e w' ⟨rfl, o, rfl⟩))
          go_ret
          exact ⟨ret_bool (by rw [e0.out (all_no HS HI.out)]), by (repeat (first | exact Below.refl _ _ | assumption | (refine Below.alloc ?_ (by first | omega | (simp; done) | (simp; omega)) _) | (refine Below.setCell ?_ (by first | omega | (simp; done) | (simp; omega)) _) | (refine Below.drew ?_) | (refine Below.drewN ?_ _) | (refine Below.next (by assumption) ?_ (by first | omega | (simp; done) | (simp; omega)))))⟩
        · have HI := Lib.hid (show isRw r = true by simp [isRw, hi, hg])
          go_wp2_with (first | (go_at_call 49; refine (l1In_any _ _ _ _).mono ?_; rintro e w' ⟨rfl, rfl⟩) | (go_at_call 57; refine (stGood_any _ _).mono ?_; rintro e w' ⟨rfl, o, rfl⟩))
          go_roundw
          case rel => exact ⟨k + 1, by omega, by go_num, by (repeat (first | exact Below.refl _ _ | assumption | (refine Below.alloc ?_ (by first | omega | (simp; done) | (simp; omega)) _) | (refine Below.setCell ?_ (by first | omega | (simp; done) | (simp; omega)) _) | (refine Below.drew ?_) | (refine Below.drewN ?_ _) | (refine Below.next (by assumption) ?_ (by first | omega | (simp; done) | (simp; omega))))), all_take_succ H HS HI.out⟩
          case measure => simp [intOf]; omega
    · have e2 := Lib.hid (e1.out (all_yes H (by omega)))
      cases hi : inR p 0 11
      · have HI := Lib.hid hi
        go_wp2_with (first | (go_at_call 49; refine (l1In_any _ _ _ _).mono ?_; rintro e w' ⟨rfl, rfl⟩) | (go_at_call 57; refine (stGood_any _ _).mono ?_; rintro e w' ⟨rfl, o, rfl⟩))
        go_ret
        exact ⟨ret_bool (by rw [e2.out, HI.out]; rfl), by (repeat (first | exact Below.refl _ _ | assumption | (refine Below.alloc ?_ (by first | omega | (simp; done) | (simp; omega)) _) | (refine Below.setCell ?_ (by first | omega | (simp; done) | (simp; omega)) _) | (refine Below.drew ?_) | (refine Below.drewN ?_ _) | (refine Below.next (by assumption) ?_ (by first | omega | (simp; done) | (simp; omega)))))⟩
      · cases hg : isSp s
        · have HI := Lib.hid hg
          go_wp2_with (first | (go_at_call 49; refine (l1In_any _ _ _ _).mono ?_; rintro e w' ⟨rfl, rfl⟩) | (go_at_call 57; refine (stGood_any _ _).mono ?_; rintro e w' ⟨rfl, o, rfl⟩))
          go_ret
          exact ⟨ret_bool (by rw [e2.out, HI.out]; simp), by (repeat (first | exact Below.refl _ _ | assumption | (refine Below.alloc ?_ (by first | omega | (simp; done) | (simp; omega)) _) | (refine Below.setCell ?_ (by first | omega | (simp; done) | (simp; omega)) _) | (refine Below.drew ?_) | (refine Below.drewN ?_ _) | (refine Below.next (by assumption) ?_ (by first | omega | (simp; done) | (simp; omega)))))⟩
        · have HI := Lib.hid hi
          have HG := Lib.hid hg
          go_wp2_with (first | (go_at_call 49; refine (l1In_any _ _ _ _).mono ?_; rintro e w' ⟨rfl, rfl⟩) | (go_at_call 57; refine (stGood_any _ _).mono ?_; rintro e w' ⟨rfl, o, rfl⟩))
          go_ret
          exact ⟨ret_bool (by rw [e2.out, HI.out, HG.out]; simp; omega), by (repeat (first | exact Below.refl _ _ | assumption | (refine Below.alloc ?_ (by first | omega | (simp; done) | (simp; omega)) _) | (refine Below.setCell ?_ (by first | omega | (simp; done) | (simp; omega)) _) | (refine Below.drew ?_) | (refine Below.drewN ?_ _) | (refine Below.next (by assumption) ?_ (by first | omega | (simp; done) | (simp; omega)))))⟩
set_option maxHeartbeats 1600000 in
set_option maxRecDepth 100000 in
theorem IsSheet_any (p : Int) (s : Sp) (A : Option Addr) (c : Nat) (L : List Rw) (w : World) (hm : Mem w A (rows L)) (hl : L.length ≤ 1048576) : Calls Tryz.prog 16 #[.agg #[.int .i64 p, .int .i64 s.x, .int .i64 s.y, .slice A L.length c]] w fun e w' => e = .returned (.bool (shOk p s L)) ∧ Below w.heap.size w w' := by
  cases hi : inR p 0 11
  · have e0 := Lib.hid (show shOk p s L = false by simp [shOk, hi])
    go_enter Tryz.func16, Tryz.ntmps16
    go_wp2_with (first | (go_at_call 36; refine (within_any _ _ _ _).mono ?_; rintro e w' ⟨rfl, rfl⟩) | (go_at_call 37; refine (isSpot_any _ _).mono ?_; rintro e w' ⟨rfl, o, rfl⟩))
    go_ret
    exact ⟨ret_bool e0.out.symm, by (repeat (first | exact Below.refl _ _ | assumption | (refine Below.alloc ?_ (by first | omega | (simp; done) | (simp; omega)) _) | (refine Below.setCell ?_ (by first | omega | (simp; done) | (simp; omega)) _) | (refine Below.drew ?_) | (refine Below.drewN ?_ _) | (refine Below.next (by assumption) ?_ (by first | omega | (simp; done) | (simp; omega)))))⟩
  cases hg : isSp s
  · have e0 := Lib.hid (show shOk p s L = false by simp [shOk, hg])
    go_enter Tryz.func16, Tryz.ntmps16
    go_wp2_with (first | (go_at_call 36; refine (within_any _ _ _ _).mono ?_; rintro e w' ⟨rfl, rfl⟩) | (go_at_call 37; refine (isSpot_any _ _).mono ?_; rintro e w' ⟨rfl, o, rfl⟩))
    go_ret
    exact ⟨ret_bool e0.out.symm, by (repeat (first | exact Below.refl _ _ | assumption | (refine Below.alloc ?_ (by first | omega | (simp; done) | (simp; omega)) _) | (refine Below.setCell ?_ (by first | omega | (simp; done) | (simp; omega)) _) | (refine Below.drew ?_) | (refine Below.drewN ?_ _) | (refine Below.next (by assumption) ?_ (by first | omega | (simp; done) | (simp; omega)))))⟩
  by_cases h8 : 8 < L.length
  · have e0 := Lib.hid (show shOk p s L = false by simp [shOk]; omega)
    go_enter Tryz.func16, Tryz.ntmps16
    go_wp2_with (first | (go_at_call 36; refine (within_any _ _ _ _).mono ?_; rintro e w' ⟨rfl, rfl⟩) | (go_at_call 37; refine (isSpot_any _ _).mono ?_; rintro e w' ⟨rfl, o, rfl⟩))
    go_ret
    exact ⟨ret_bool e0.out.symm, by (repeat (first | exact Below.refl _ _ | assumption | (refine Below.alloc ?_ (by first | omega | (simp; done) | (simp; omega)) _) | (refine Below.setCell ?_ (by first | omega | (simp; done) | (simp; omega)) _) | (refine Below.drew ?_) | (refine Below.drewN ?_ _) | (refine Below.next (by assumption) ?_ (by first | omega | (simp; done) | (simp; omega)))))⟩
  have e1 : Hid (shOk p s L = L.all isRw) := Lib.hid (by have : L.length ≤ 8 := by omega
                                                         simp [shOk, hi, hg, this])
  go_enter Tryz.func16, Tryz.ntmps16
  go_wp2_with (first | (go_at_call 36; refine (within_any _ _ _ _).mono ?_; rintro e w' ⟨rfl, rfl⟩) | (go_at_call 37; refine (isSpot_any _ _).mono ?_; rintro e w' ⟨rfl, o, rfl⟩))
  have hB0 : Below (w.heap.size + 1) (w.alloc (.cells #[.int .i64 p, .int .i64 s.x, .int .i64 s.y, .slice A L.length c] 28)) ((w.alloc (.cells #[.int .i64 p, .int .i64 s.x, .int .i64 s.y, .slice A L.length c] 28)).alloc o) := by (repeat (first | exact Below.refl _ _ | assumption | (refine Below.alloc ?_ (by first | omega | (simp; done) | (simp; omega)) _) | (refine Below.setCell ?_ (by first | omega | (simp; done) | (simp; omega)) _) | (refine Below.drew ?_) | (refine Below.drewN ?_ _) | (refine Below.next (by assumption) ?_ (by first | omega | (simp; done) | (simp; omega)))))
  go_loopw [4, 24] (fun _ i wr => ∃ k : Nat, k ≤ L.length ∧ i = .int .i64 k ∧ Below (w.heap.size + 1) (w.alloc (.cells #[.int .i64 p, .int .i64 s.x, .int .i64 s.y, .slice A L.length c] 28)) wr ∧ Hid ((L.take k).all isRw = true)) (fun _ i _ => L.length - (intOf i).toNat)
  case atStart => exact ⟨0, by omega, rfl, hB0, all_take_zero _ _⟩
  case round =>
    obtain ⟨k, hk, rfl, hbx, H⟩ := hrel
    obtain ⟨hb, hsz⟩ := boxed hbx
    by_cases hlt : k < L.length
    · obtain ⟨r, hr⟩ := some_of_lt hlt
      obtain ⟨b, off, rfl, h1, h2, h3⟩ := (hm.below hb).row hr
      have HS := Lib.hid hr
      clear hr
      cases hi : inR r.c 1 64
      · have HI := Lib.hid (show isRw r = false by simp [isRw, hi])
        go_wp2_with (first | (go_at_call 36; refine (within_any _ _ _ _).mono ?_; rintro e w' ⟨rfl, rfl⟩) | (go_at_call 37; refine (isSpot_any _ _).mono ?_; rintro e w' ⟨rfl, o, rfl⟩))
        go_ret
        exact ⟨ret_bool (by rw [e1.out, all_no HS HI.out]), by (repeat (first | exact Below.refl _ _ | assumption | (refine Below.alloc ?_ (by first | omega | (simp; done) | (simp; omega)) _) | (refine Below.setCell ?_ (by first | omega | (simp; done) | (simp; omega)) _) | (refine Below.drew ?_) | (refine Below.drewN ?_ _) | (refine Below.next (by assumption) ?_ (by first | omega | (simp; done) | (simp; omega)))))⟩
      · cases hg : isSp r.t
        · have HI := Lib.hid (show isRw r = false by simp [isRw, hg])
          go_wp2_with (first | (go_at_call 36; refine (within_any _ _ _ _).mono ?_; rintro e w' ⟨rfl, rfl⟩) | (go_at_call 37; refine (isSpot_any _ _).mono ?_; rintro e w' ⟨rfl, o, rfl⟩))
          go_ret
          exact ⟨ret_bool (by rw [e1.out, all_no HS HI.out]), by (repeat (first | exact Below.refl _ _ | assumption | (refine Below.alloc ?_ (by first | omega | (simp; done) | (simp; omega)) _) | (refine Below.setCell ?_ (by first | omega | (simp; done) | (simp; omega)) _) | (refine Below.drew ?_) | (refine Below.drewN ?_ _) | (refine Below.next (by assumption) ?_ (by first | omega | (simp; done) | (simp; omega)))))⟩
        · have HI := Lib.hid (show isRw r = true by simp [isRw, hi, hg])
          go_wp2_with (first | (go_at_call 36; refine (within_any _ _ _ _).mono ?_; rintro e w' ⟨rfl, rfl⟩) | (go_at_call 37; refine (isSpot_any _ _).mono ?_; rintro e w' ⟨rfl, o, rfl⟩))
          go_roundw
          case rel => exact ⟨k + 1, by omega, by go_num, by (repeat (first | exact Below.refl _ _ | assumption | (refine Below.alloc ?_ (by first | omega | (simp; done) | (simp; omega)) _) | (refine Below.setCell ?_ (by first | omega | (simp; done) | (simp; omega)) _) | (refine Below.drew ?_) | (refine Below.drewN ?_ _) | (refine Below.next (by assumption) ?_ (by first | omega | (simp; done) | (simp; omega))))), all_take_succ H HS HI.out⟩
          case measure => simp [intOf]; omega
    · go_wp2
      go_ret
      exact ⟨ret_bool (by rw [e1.out, all_yes H (by omega)]), hb⟩
end Go.Proofs.YtdmgffcabjpihaaGreatDoor
