/-
  The reference's first least cover (under way).
-/
import Derived.Test.YthppancpecjegaaMal
import Derived.Test.YthppancpecjegaaMav
import Derived.Test.YthppancpecjegaaAb
import Derived.Test.YthppancpecjegaaKeep
namespace Go.Proofs.Ythppancpecjegaa
open Go.RowKit

/-- The square of the ways of a spare performer to an open spot. -/
def cst (L : List Sp) (op sp : List Int) (i k : Nat) : Int := sq (L.getD (sp.getD k 0).toNat ⟨0, 0⟩) (L.getD (op.getD i 0).toNat ⟨0, 0⟩)
/-- The first least cover, and its sum. -/
def lcV (L : List Sp) (op sp : List Int) : List Int := (lcS (cst L op sp) sp.length op.length op.length).2.map fun k => sp.getD k.toNat 0
def lcSum (L : List Sp) (op sp : List Int) : Int := bst (cst L op sp) sp.length op.length op.length 0
theorem sq_nonneg (a b : Sp) : 0 ≤ sq a b := by
  unfold sq
  have h : ∀ x : Int, 0 ≤ x * x := fun x => by
    rcases Int.le_total 0 x with h | h
    · exact Int.mul_nonneg h h
    · exact Int.mul_nonneg_of_nonpos_of_nonpos h h
  have := h (a.x - b.x)
  have := h (a.y - b.y)
  omega
theorem cst_bd {L : List Sp} {op sp : List Int} (hL : L.all isSp = true) (ho : ∀ x ∈ op, 0 ≤ x ∧ x < L.length) (hs : ∀ x ∈ sp, 0 ≤ x ∧ x < L.length) : ∀ i k, i < op.length → k < sp.length → 0 ≤ cst L op sp i k ∧ cst L op sp i k ≤ 2100000 := by
  intro i k hi hk
  obtain ⟨o, e1⟩ := some_of_lt hi
  obtain ⟨s, e2⟩ := some_of_lt hk
  have h1 := ho o (List.mem_of_getElem? e1)
  have h2 := hs s (List.mem_of_getElem? e2)
  obtain ⟨a, ha⟩ := some_of_lt (L := L) (k := s.toNat) (by omega)
  obtain ⟨b, hb⟩ := some_of_lt (L := L) (k := o.toNat) (by omega)
  have hbd := sq_bd (List.all_eq_true.1 hL a (List.mem_of_getElem? ha)) (List.all_eq_true.1 hL b (List.mem_of_getElem? hb))
  have e : cst L op sp i k = sq a b := by simp [cst, List.getD, e1, e2, ha, hb]
  rw [e]
  omega
end Go.Proofs.Ythppancpecjegaa
