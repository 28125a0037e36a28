/-
  Contracts of the small functions.
-/
import Derived.Test.YtdmgffcabjpihaaDoorPlain
import Derived.Test.YtdmgffcabjpihaaDoorChecked
import Derived.Tactics
import Derived.Tactics2
import Derived.WalkKit
import Derived.WalkSpells
import Derived.WalkLawsBesides
import Derived.Outline
import Derived.Deep.QuietTactic
import Derived.BigQuiet
import Derived.Lib.Hide
import Derived.Below
import Derived.KernelRfl
namespace Go.Proofs.YtdmgffcabjpihaaDoor
open Go.RowKit

theorem ret_int {k : IntKind} {a b : Int} (h : a = b) : Ending.returned (.int k a) = .returned (.int k b) := by rw [h]

set_option maxRecDepth 100000 in
theorem within_any (n lo hi : Int) (w : World) : Calls Tryd.prog 28 #[.int .i64 n, .int .i64 lo, .int .i64 hi] w fun e w' => e = .returned (.bool (inR n lo hi)) ∧ w = w' := by
  by_cases h1 : lo ≤ n
  · go_enter Tryd.func28, Tryd.ntmps28
    go_wp2
    go_ret
    simp [inR, h1]
  · go_enter Tryd.func28, Tryd.ntmps28
    go_wp2
    go_ret
    simp [inR]
    omega

set_option maxRecDepth 100000 in
theorem isSpot_any (s : Sp) (w : World) : Calls Tryd.prog 39 #[.agg #[.int .i64 s.x, .int .i64 s.y]] w fun e w' => e = .returned (.bool (isSp s)) ∧ ∃ o, w.alloc o = w' := by
  cases h : inR s.x 0 1280
  all_goals
    go_enter Tryd.func39, Tryd.ntmps39
    go_wp2_with (go_at_call 28; refine (within_any _ _ _ _).mono ?_; rintro e w' ⟨rfl, rfl⟩)
    go_ret
    exact ⟨by simp [isSp, h], _, rfl⟩

set_option maxRecDepth 100000 in
theorem l1In_any (n lo hi : Int) (w : World) : Calls Tryd.prog 24 #[.int .i64 n, .int .i64 lo, .int .i64 hi] w fun e w' => e = .returned (.bool (inR n lo hi)) ∧ w = w' := by
  by_cases h1 : lo ≤ n
  · go_enter Tryd.func24, Tryd.ntmps24
    go_wp2
    go_ret
    simp [inR, h1]
  · go_enter Tryd.func24, Tryd.ntmps24
    go_wp2
    go_ret
    simp [inR]
    omega

set_option maxRecDepth 100000 in
theorem stGood_any (s : Sp) (w : World) : Calls Tryd.prog 35 #[.agg #[.int .i64 s.x, .int .i64 s.y]] w fun e w' => e = .returned (.bool (isSp s)) ∧ ∃ o, w.alloc o = w' := by
  cases h : inR s.x 0 1280
  all_goals
    go_enter Tryd.func35, Tryd.ntmps35
    go_wp2_with (go_at_call 24; refine (l1In_any _ _ _ _).mono ?_; rintro e w' ⟨rfl, rfl⟩)
    go_ret
    exact ⟨by simp [isSp, h], _, rfl⟩

set_option maxRecDepth 100000 in
theorem toSpot_any (s : Sp) (w : World) : Calls Tryd.prog 17 #[.agg #[.int .i64 s.x, .int .i64 s.y]] w fun e w' => e = .returned (.agg #[.int .i64 s.x, .int .i64 s.y]) ∧ Below w.heap.size w w' := by
  go_enter Tryd.func17, Tryd.ntmps17
  go_wp2
  refine bodyPost_ret (v := .agg #[.int .i64 s.x, .int .i64 s.y]) (by simp [results, Tryd.results17, go_sem]) rfl ⟨rfl, ?_⟩
  repeat (first | exact Below.refl _ _ | (refine Below.setCell ?_ (by simp; try omega) _) | (refine Below.alloc ?_ (by simp; try omega) _))

set_option maxRecDepth 100000 in
theorem eqSpot_any (a b : Sp) (w : World) : Calls Tryd.prog 21 #[.agg #[.int .i64 a.x, .int .i64 a.y], .agg #[.int .i64 b.x, .int .i64 b.y]] w fun e w' => e = .returned (.bool (decide (a = b))) ∧ ∃ o1 o2, (w.alloc o1).alloc o2 = w' := by
  obtain ⟨ax, ay⟩ := a
  obtain ⟨bx, bY⟩ := b
  by_cases h1 : ax = bx
  · subst h1
    by_cases h2 : ay = bY
    · subst h2
      go_enter Tryd.func21, Tryd.ntmps21
      go_wp2
      go_ret
      exact ⟨by simp, _, _, rfl⟩
    · have e2 : (ay != bY) = true := by simpa using h2
      go_enter Tryd.func21, Tryd.ntmps21
      go_wp2
      go_ret
      exact ⟨by simp [h2], _, _, rfl⟩
  · have e2 : (ax != bx) = true := by simpa using h1
    go_enter Tryd.func21, Tryd.ntmps21
    go_wp2
    go_ret
    exact ⟨by simp [h1], _, _, rfl⟩

end Go.Proofs.YtdmgffcabjpihaaDoor
