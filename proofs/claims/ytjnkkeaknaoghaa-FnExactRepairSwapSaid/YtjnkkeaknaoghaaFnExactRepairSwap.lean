/-
  For every input FnExactRepairSwap answers true, and its arguments read as before. No condition.
-/
import Derived.Test.YtjnkkeaknaoghaaWe2
import Derived.Test.YtjnkkeaknaoghaaFrame
namespace Go.Proofs.Ytjnkkeaknaoghaa.lawFnExactRepairSwap
open Go.ChangeShapes Go.WideShapes Go.ChangeAt Go.RowKit
theorem own : ownKnob Try.prog.godebug = none := by kernel_rfl
set_option maxRecDepth 100000 in
theorem lifted (os : Os) (started : os.Started) (H : Type) (enc : TypeId × Value → H) :
    ReturnsInHanded {} Try.checked os 7 .any (Rows.fnExactRepairSwapSpec.pre6 enc Try.prog Try.f7 Rows.fnExactRepairSwapRow.domain false) (Rows.fnExactRepairSwapSpec.post enc Try.prog Try.f7 false true false false) := by
  refine returnsInHanded_of_change (C := Try.checked) own started (by kernel_rfl) Try.func7
    (ChangeSpec.witness6 (enc := enc) (C := Try.checked) false ⟨#[], #[.agg #[.slice none 0 0, .slice none 0 0, .int .i64 0, .slice none 0 0], .int .i64 0], []⟩ 8 (by kernel_rfl) (by kernel_rfl) (by kernel_rfl) (by kernel_rfl)) ?_
  intro W base args ds gs before hval0 hW _ _
  have hval : ∀ (j : Nat) t v, Try.f7.params[j]? = some t → args[j]? = some v → Value.okWide Try.prog W .any base t v := hval0
  have hW' := hW
  obtain ⟨p, q, hA0, _, rfl, _, _⟩ := hW
  have hA : DataW.TrodAll enc Try.prog W 0 (fun _ => true) true Try.f7.params.toList args.toList ds p := hA0
  rw [Try.params7] at hA hval
  obtain ⟨v0, vs0, d0, ds0, p0, q0, hargs, rfl, rfl, h0, r0⟩ := trodAll_cons hA
  obtain ⟨v1, vs1, d1, ds1, p1, q1, rfl, rfl, rfl, h1, r1⟩ := trodAll_cons r0
  obtain ⟨rfl, rfl, rfl⟩ := trodAll_nil r1
  obtain rfl : args = #[v0, v1] := by cases args; simp_all
  obtain ⟨⟨⟨A0a, c0a, L0a⟩, ⟨A0b, c0b, L0b⟩, N0, ⟨A0c, c0c, L0c⟩⟩, rfl, ⟨m0a, _, l0a, n0a⟩, ⟨m0b, _, l0b, n0b⟩, _, ⟨m0c, _, l0c, n0c⟩⟩ := open_rd_struct Try.underlying25 (Rd_trans enc W) (hval 0 25 v0 rfl rfl) h0
  obtain ⟨a1, rfl, k1⟩ := open_rd_int Try.underlying3 (by kernel_rfl) (hval 1 3 v1 rfl rfl) h1
  clear hA0 hval0 hval hA hargs
  refine (FnExactRepairSwap_walk A0a c0a L0a A0b c0b L0b N0 A0c c0c L0c a1 W m0a l0a n0a m0b l0b n0b m0c l0c n0c k1).mono fun e W' ⟨he, hb⟩ => ?_
  subst he
  exact ⟨_, rfl, law_post (by kernel_rfl) rfl Try.underlying4 (by kernel_rfl) rfl hW' rfl hb⟩
theorem over : Rows.fnExactRepairSwapRow.holds Try.pinned (OpenSpec.ofChange Rows.fnExactRepairSwapSpec) :=
  OpenClaim.holds_of_wide 7 Try.f7 rfl rfl rfl rfl rfl rfl rfl ⟨rfl, rfl, rfl, rfl, rfl⟩ rfl rfl rfl rfl rfl (by kernel_rfl) Try.func7 (by kernel_rfl)
    (of_decide_eq_true (by kernel_rfl)) (by unfold Func.isWrapper; first | (rw [if_pos (by decide +kernel)]; kernel_rfl) | (rw [if_neg (by decide +kernel)]; exact ⟨rfl, rfl⟩))
    (fun os started H enc _ => lifted os started H enc)
/-- The statement. -/
theorem proved : Rows.FnExactRepairSwapSaid := over
end Go.Proofs.Ytjnkkeaknaoghaa.lawFnExactRepairSwap
