/-
  For every input FnExactCloseDelayed answers true, and its arguments read as before. No condition.
-/
import Derived.Test.YtjnkkeaknaoghaaWe3
import Derived.Test.YtjnkkeaknaoghaaFrame
namespace Go.Proofs.Ytjnkkeaknaoghaa.lawFnExactCloseDelayed
open Go.ChangeShapes Go.WideShapes Go.ChangeAt Go.RowKit
theorem own : ownKnob Try.prog.godebug = none := by kernel_rfl
set_option maxRecDepth 100000 in
theorem lifted (os : Os) (started : os.Started) (H : Type) (enc : TypeId × Value → H) :
    ReturnsInHanded {} Try.checked os 8 .any (Rows.fnExactCloseDelayedSpec.pre6 enc Try.prog Try.f8 Rows.fnExactCloseDelayedRow.domain false) (Rows.fnExactCloseDelayedSpec.post enc Try.prog Try.f8 false true false false) := by
  refine returnsInHanded_of_change (C := Try.checked) own started (by kernel_rfl) Try.func8
    (ChangeSpec.witness6 (enc := enc) (C := Try.checked) false ⟨#[], #[.agg #[.slice none 0 0, .slice none 0 0, .int .i64 0, .slice none 0 0], .slice none 0 0, .int .i64 0], []⟩ 8 (by kernel_rfl) (by kernel_rfl) (by kernel_rfl) (by kernel_rfl)) ?_
  intro W base args ds gs before hval0 hW _ _
  have hval : ∀ (j : Nat) t v, Try.f8.params[j]? = some t → args[j]? = some v → Value.okWide Try.prog W .any base t v := hval0
  have hW' := hW
  obtain ⟨p, q, hA0, _, rfl, _, _⟩ := hW
  have hA : DataW.TrodAll enc Try.prog W 0 (fun _ => true) true Try.f8.params.toList args.toList ds p := hA0
  rw [Try.params8] at hA hval
  obtain ⟨v0, vs0, d0, ds0, p0, q0, hargs, rfl, rfl, h0, r0⟩ := trodAll_cons hA
  obtain ⟨v1, vs1, d1, ds1, p1, q1, rfl, rfl, rfl, h1, r1⟩ := trodAll_cons r0
  obtain ⟨v2, vs2, d2, ds2, p2, q2, rfl, rfl, rfl, h2, r2⟩ := trodAll_cons r1
  obtain ⟨rfl, rfl, rfl⟩ := trodAll_nil r2
  obtain rfl : args = #[v0, v1, v2] := by cases args; simp_all
  obtain ⟨⟨⟨A0a, c0a, L0a⟩, ⟨A0b, c0b, L0b⟩, N0, ⟨A0c, c0c, L0c⟩⟩, rfl, ⟨m0a, _, l0a, n0a⟩, ⟨m0b, _, l0b, n0b⟩, _, ⟨m0c, _, l0c, n0c⟩⟩ := open_rd_struct Try.underlying25 (Rd_trans enc W) (hval 0 25 v0 rfl rfl) h0
  obtain ⟨A1, c1, L1, rfl, m1, k1, l1, n1⟩ := open_rd_slice Try.underlying23 (by kernel_rfl) (by omega) (Rd_i enc W) (hval 1 23 v1 rfl rfl) h1
  obtain ⟨a2, rfl, k2⟩ := open_rd_int Try.underlying3 (by kernel_rfl) (hval 2 3 v2 rfl rfl) h2
  clear hA0 hval0 hval hA hargs
  refine (FnExactCloseDelayed_walk A0a c0a L0a A0b c0b L0b N0 A0c c0c L0c A1 c1 L1 a2 W m0a l0a n0a m0b l0b n0b m0c l0c n0c m1 k1 l1 n1 k2).mono fun e W' ⟨he, hb⟩ => ?_
  subst he
  exact ⟨_, rfl, law_post (by kernel_rfl) rfl Try.underlying4 (by kernel_rfl) rfl hW' rfl hb⟩
theorem over : Rows.fnExactCloseDelayedRow.holds Try.pinned (OpenSpec.ofChange Rows.fnExactCloseDelayedSpec) :=
  OpenClaim.holds_of_wide 8 Try.f8 rfl rfl rfl rfl rfl rfl rfl ⟨rfl, rfl, rfl, rfl, rfl⟩ rfl rfl rfl rfl rfl (by kernel_rfl) Try.func8 (by kernel_rfl)
    (of_decide_eq_true (by kernel_rfl)) (by unfold Func.isWrapper; first | (rw [if_pos (by decide +kernel)]; kernel_rfl) | (rw [if_neg (by decide +kernel)]; exact ⟨rfl, rfl⟩))
    (fun os started H enc _ => lifted os started H enc)
/-- The statement. -/
theorem proved : Rows.FnExactCloseDelayedSaid := over
end Go.Proofs.Ytjnkkeaknaoghaa.lawFnExactCloseDelayed
