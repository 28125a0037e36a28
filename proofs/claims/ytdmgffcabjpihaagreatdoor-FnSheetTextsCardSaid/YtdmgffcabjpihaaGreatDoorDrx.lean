/-
  The reference's draws: any spot, lists of spots, sources, thousandths.
-/
import Derived.Test.YtdmgffcabjpihaaGreatDoorDrw
import Derived.Test.YtdmgffcabjpihaaGreatDoorPlain2
import Derived.Test.YtdmgffcabjpihaaGreatDoorApp
import Derived.Test.YtdmgffcabjpihaaGreatDoorCpySp
namespace Go.Proofs.YtdmgffcabjpihaaGreatDoor
open Go.RowKit

set_option maxRecDepth 100000 in
theorem anySpot_any (g k : Nat) (w : World) (h : Cur w g k) (hk : k ≤ 700000) : Calls Tryz.prog 73 #[.pointer (some ⟨g, 0, none⟩)] w (Ds g (k + 16) 1 w) := by
  have hlt := h.lt
  have R0 : Blk (w.alloc (.cells #[.int .i64 0, .int .i64 0] 25)) w.heap.size #[.int .i64 0, .int .i64 0] 25 := Blk.new _ _ _
  have O0 : Oth g w (w.alloc (.cells #[.int .i64 0, .int .i64 0] 25)) := (Oth.refl _ _).alloc _
  have HR := Lib.hid R0
  have HO := Lib.hid O0
  clear R0 O0
  go_enter Tryz.func73, Tryz.ntmps73
  go_wp2_with fail
  refine (spot_any g k _ (h.alloc _) (by omega)).mono ?_
  rintro e w1 ⟨x, y, rfl, x0, x1, y0, y1, hc1, ho1⟩
  have R1 := Lib.hid (ho1.blk HR.out (by omega))
  have O1 := Lib.hid (HO.out.trans ho1)
  have z1 : w.heap.size < w1.heap.size := R1.out.lt
  have zg := hc1.lt
  clear ho1 h
  have B1 := Lib.hid (Blk.new w1 #[.int .i64 x, .int .i64 y] 25)
  go_wp2_with fail
  refine (pick_any g (k + 12) _ _ 29 (hc1.alloc _) (by omega) (by omega) (by omega) (by omega)).mono ?_
  rintro e w2 ⟨n, rfl, n0, n1, hc2, ho2⟩
  have R2 := Lib.hid (ho2.blk (R1.out.alloc _) (by omega))
  have B2 := Lib.hid (ho2.blk B1.out (by omega))
  have O2 := Lib.hid ((O1.out.alloc _).trans ho2)
  have zg2 := hc2.lt
  clear ho2 hc1
  by_cases h0 : n = 0
  · subst h0
    go_wp2_with fail
    refine (among_any g (k + 12 + 2) _ _ _ _ [-1, 1281] (-1) 1281 _ (hc2.alloc _) (by omega) (Blk.new _ _ _) rfl rfl (by omega) (by simp) (by simp) (by simp)).mono ?_
    rintro e w3 ⟨X, rfl, X0, X1, hc3, ho3⟩
    have r3 := ho3.blk (R2.out.alloc _) (by omega)
    have b3 := ho3.blk (B2.out.alloc _) (by omega)
    have O3 := Lib.hid ((O2.out.alloc _).trans ho3)
    have C3 := Lib.hid hc3
    have f0 := r3.frozen 0
    have f1 := r3.frozen 1
    have e0 := r3.cell 0
    have e1 := r3.cell 1
    have j0 := b3.frozen 0
    have j1 := b3.frozen 1
    have d0 := b3.cell 0
    have d1 := b3.cell 1
    simp at e0 e1 d0 d1
    have z1' : w1.heap.size ≠ w.heap.size := by omega
    have z1'' : w.heap.size ≠ w1.heap.size := by omega
    clear ho3 hc2 hc3 r3 b3
    go_wp2
    refine bodyPost_ret (v := .agg #[.int .i64 X, .int .i64 y]) (by simp [results, Tryz.results73, go_sem, e0, e1, z1', z1'']) rfl ⟨_, _, rfl, by omega, by omega, by omega, by omega, ?_, ?_⟩
    · exact ((C3.out.mono (k' := k + 16) (by omega)).put1 (by omega)).put (by omega)
    · exact ((O3.out.set (.inr (Nat.le_of_lt z1)) _).set (.inr (Nat.le_refl _)) _).set (.inr (Nat.le_refl _)) _
  by_cases h1 : n = 1
  · subst h1
    go_wp2_with fail
    refine (among_any g (k + 12 + 2) _ _ _ _ [-1, 673] (-1) 673 _ (hc2.alloc _) (by omega) (Blk.new _ _ _) rfl rfl (by omega) (by simp) (by simp) (by simp)).mono ?_
    rintro e w3 ⟨X, rfl, X0, X1, hc3, ho3⟩
    have r3 := ho3.blk (R2.out.alloc _) (by omega)
    have b3 := ho3.blk (B2.out.alloc _) (by omega)
    have O3 := Lib.hid ((O2.out.alloc _).trans ho3)
    have C3 := Lib.hid hc3
    have f0 := r3.frozen 0
    have f1 := r3.frozen 1
    have e0 := r3.cell 0
    have e1 := r3.cell 1
    have j0 := b3.frozen 0
    have j1 := b3.frozen 1
    have d0 := b3.cell 0
    have d1 := b3.cell 1
    simp at e0 e1 d0 d1
    have z1' : w1.heap.size ≠ w.heap.size := by omega
    have z1'' : w.heap.size ≠ w1.heap.size := by omega
    clear ho3 hc2 hc3 r3 b3
    go_wp2
    refine bodyPost_ret (v := .agg #[.int .i64 x, .int .i64 X]) (by simp [results, Tryz.results73, go_sem, e0, e1, z1', z1'']) rfl ⟨_, _, rfl, by omega, by omega, by omega, by omega, ?_, ?_⟩
    · exact ((C3.out.mono (k' := k + 16) (by omega)).put1 (by omega)).put (by omega)
    · exact ((O3.out.set (.inr (Nat.le_of_lt z1)) _).set (.inr (Nat.le_refl _)) _).set (.inr (Nat.le_refl _)) _
  have h0' : (n == 0) = false := beq_eq_false_iff_ne.2 h0
  have h1' : (n == 1) = false := beq_eq_false_iff_ne.2 h1
  have r3 := R2.out
  have b3 := B2.out
  have f0 := r3.frozen 0
  have f1 := r3.frozen 1
  have e0 := r3.cell 0
  have e1 := r3.cell 1
  have d0 := b3.cell 0
  have d1 := b3.cell 1
  simp at e0 e1 d0 d1
  have C3 := Lib.hid hc2
  clear hc2 r3 b3
  go_wp2
  refine bodyPost_ret (v := .agg #[.int .i64 x, .int .i64 y]) (by simp [results, Tryz.results73, go_sem, e0, e1]) rfl ⟨_, _, rfl, by omega, by omega, by omega, by omega, ?_, ?_⟩
  · exact (C3.out.mono (k' := k + 16) (by omega)).put (by omega)
  · exact (O2.out.set (.inr (Nat.le_refl _)) _).set (.inr (Nat.le_refl _)) _
/-- Spots that are nearly ones. -/
def smSp (s : Sp) : Prop := -1 ≤ s.x ∧ s.x ≤ 1281 ∧ -1 ≤ s.y ∧ s.y ≤ 673
theorem smSp.ok {s : Sp} (h : smSp s) : okSp s := by
  obtain ⟨h1, h2, h3, h4⟩ := h
  exact ⟨⟨by omega, by omega⟩, ⟨by omega, by omega⟩⟩
def lenOf : Value → Nat | .slice _ n _ => n | _ => 0
theorem Oth.of_base {g : Nat} {a w w' : World} (h : Below a.heap.size w w') (hz : a.heap.size ≤ w.heap.size) : Oth g a w → Oth g a w' := fun k =>
  ⟨h.os.trans k.os, h.tape.trans k.tape, h.output.trans k.output, Nat.le_trans k.size h.size, fun i hi hne => (h.block i hi).trans (k.block i hi hne)⟩
/-- A list of spots is drawn. -/
def Dl (g k : Nat) (w : World) (e : Ending) (w' : World) : Prop :=
  ∃ (A' : Option Addr) (c' : Nat) (L : List Sp), e = .returned (.slice A' L.length c') ∧ w'.ownsRow w.heap.size 25 2 (.slice A' L.length c') L.length (spots L) ∧ L.length ≤ 41 ∧ (∀ s ∈ L, smSp s) ∧ Cur w' g k ∧ Oth g w w'

end Go.Proofs.YtdmgffcabjpihaaGreatDoor
