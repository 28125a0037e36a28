/-
  For every input FnDelayed answers true, and its arguments read as before. No condition.
-/
import Derived.Test.YthehcjfljjfnmaaGreatFdl
import Derived.Test.YthehcjfljjfnmaaGreatBase
namespace Go.Proofs.YthehcjfljjfnmaaGreat.lawFnDelayed
open Go.ChangeShapes Go.WideShapes Go.ChangeAt Go.RowKit
theorem own : ownKnob Tryz.prog.godebug = none := by kernel_rfl
set_option maxRecDepth 100000 in
theorem lifted (os : Os) (started : os.Started) (H : Type) (enc : TypeId × Value → H) :
    ReturnsInHanded {} Tryz.checked os 3 .any (Rows.fnDelayedSpec.pre6 enc Tryz.prog Tryz.f3 Rows.fnDelayedRow.domain false) (Rows.fnDelayedSpec.post enc Tryz.prog Tryz.f3 false true false false) := by
  refine returnsInHanded_of_change (C := Tryz.checked) own started (by kernel_rfl) Tryz.func3
    (ChangeSpec.witness6 (enc := enc) (C := Tryz.checked) false ⟨#[], #[.slice none 0 0, .slice none 0 0], []⟩ 8 (by kernel_rfl) (by kernel_rfl) (by kernel_rfl) (by kernel_rfl)) ?_
  intro W base args ds gs before hval0 hW _ _
  have hval : ∀ (j : Nat) t v, Tryz.f3.params[j]? = some t → args[j]? = some v → Value.okWide Tryz.prog W .any base t v := hval0
  have hW' := hW
  obtain ⟨p, q, hA0, _, rfl, _, _⟩ := hW
  have hA : DataW.TrodAll enc Tryz.prog W 0 (fun _ => true) true Tryz.f3.params.toList args.toList ds p := hA0
  rw [Tryz.params3] at hA hval
  obtain ⟨v0, vs0, d0, ds0, p0, q0, hargs, rfl, rfl, h0, r0⟩ := trodAll_cons hA
  obtain ⟨v1, vs1, d1, ds1, p1, q1, rfl, rfl, rfl, h1, r1⟩ := trodAll_cons r0
  obtain ⟨rfl, rfl, rfl⟩ := trodAll_nil r1
  obtain rfl : args = #[v0, v1] := by cases args; simp_all
  obtain ⟨A0, c0, L0, rfl, m0, k0, l0, n0⟩ := open_rd_slice Tryz.underlying22 (by kernel_rfl) (by omega) (Rd_b enc W) (hval 0 22 v0 rfl rfl) h0
  obtain ⟨A1, c1, L1, rfl, m1, k1, l1, n1⟩ := open_rd_slice Tryz.underlying22 (by kernel_rfl) (by omega) (Rd_b enc W) (hval 1 22 v1 rfl rfl) h1
  clear hA0 hval0 hval hA hargs
  refine (FnDelayed_walk A0 c0 L0 A1 c1 L1 W m0 k0 l0 n0 m1 k1 l1 n1).mono fun e W' ⟨he, hb⟩ => ?_
  subst he
  exact ⟨_, rfl, law_post (by kernel_rfl) rfl Tryz.underlying4 (by kernel_rfl) rfl hW' rfl hb⟩
theorem over : Rows.fnDelayedRow.holds Tryz.pinned (OpenSpec.ofChange Rows.fnDelayedSpec) :=
  OpenClaim.holds_of_wide 3 Tryz.f3 rfl rfl rfl rfl rfl rfl rfl ⟨rfl, rfl, rfl, rfl, rfl⟩ rfl rfl rfl rfl rfl (by kernel_rfl) Tryz.func3 (by kernel_rfl)
    (of_decide_eq_true (by kernel_rfl)) (by unfold Func.isWrapper; first | (rw [if_pos (by decide +kernel)]; kernel_rfl) | (rw [if_neg (by decide +kernel)]; exact ⟨rfl, rfl⟩))
    (fun os started H enc _ => lifted os started H enc)
/-- The statement. -/
theorem proved : Rows.FnDelayedSaid := over
end Go.Proofs.YthehcjfljjfnmaaGreat.lawFnDelayed
