/-
  Contracts of the small functions.
-/
import Derived.Test.YtdmgffcabjpihaaGreatDoorPlain
import Derived.Test.YtdmgffcabjpihaaGreatDoorChecked
import Derived.Tactics
import Derived.Tactics2
import Derived.WalkKit
import Derived.WalkSpells
import Derived.WalkLawsBesides
import Derived.Outline
import Derived.Deep.QuietTactic
import Derived.BigQuiet
import Derived.Lib.Hide
import Derived.Below
import Derived.KernelRfl
namespace Go.Proofs.YtdmgffcabjpihaaGreatDoor
open Go.RowKit

theorem ret_int {k : IntKind} {a b : Int} (h : a = b) : Ending.returned (.int k a) = .returned (.int k b) := by rw [h]

set_option maxRecDepth 100000 in
theorem within_any (n lo hi : Int) (w : World) : Calls Tryz.prog 36 #[.int .i64 n, .int .i64 lo, .int .i64 hi] w fun e w' => e = .returned (.bool (inR n lo hi)) ∧ w = w' := by
  by_cases h1 : lo ≤ n
  · go_enter Tryz.func36, Tryz.ntmps36
    go_wp2
    go_ret
    simp [inR, h1]
  · go_enter Tryz.func36, Tryz.ntmps36
    go_wp2
    go_ret
    simp [inR]
    omega

set_option maxRecDepth 100000 in
theorem isSpot_any (s : Sp) (w : World) : Calls Tryz.prog 37 #[.agg #[.int .i64 s.x, .int .i64 s.y]] w fun e w' => e = .returned (.bool (isSp s)) ∧ ∃ o, w.alloc o = w' := by
  cases h : inR s.x 0 1280
  all_goals
    go_enter Tryz.func37, Tryz.ntmps37
    go_wp2_with (go_at_call 36; refine (within_any _ _ _ _).mono ?_; rintro e w' ⟨rfl, rfl⟩)
    go_ret
    exact ⟨by simp [isSp, h], _, rfl⟩

set_option maxRecDepth 100000 in
theorem squareOf_any (a b : Sp) (ha : isSp a = true) (hb : isSp b = true) (w : World) : Calls Tryz.prog 34 #[.agg #[.int .i64 a.x, .int .i64 a.y], .agg #[.int .i64 b.x, .int .i64 b.y]] w fun e w' => e = .returned (.int .i64 (sq a b)) ∧ ∃ o1 o2, (w.alloc o1).alloc o2 = w' := by
  have h1 := isSp_iff.1 ha
  have h2 := isSp_iff.1 hb
  have h3 := sq_parts ha hb
  clear ha hb
  go_enter Tryz.func34, Tryz.ntmps34
  go_wp2
  go_ret
  exact ⟨rfl, _, _, rfl⟩

set_option maxRecDepth 100000 in
theorem l1In_any (n lo hi : Int) (w : World) : Calls Tryz.prog 49 #[.int .i64 n, .int .i64 lo, .int .i64 hi] w fun e w' => e = .returned (.bool (inR n lo hi)) ∧ w = w' := by
  by_cases h1 : lo ≤ n
  · go_enter Tryz.func49, Tryz.ntmps49
    go_wp2
    go_ret
    simp [inR, h1]
  · go_enter Tryz.func49, Tryz.ntmps49
    go_wp2
    go_ret
    simp [inR]
    omega

set_option maxRecDepth 100000 in
theorem stGood_any (s : Sp) (w : World) : Calls Tryz.prog 57 #[.agg #[.int .i64 s.x, .int .i64 s.y]] w fun e w' => e = .returned (.bool (isSp s)) ∧ ∃ o, w.alloc o = w' := by
  cases h : inR s.x 0 1280
  all_goals
    go_enter Tryz.func57, Tryz.ntmps57
    go_wp2_with (go_at_call 49; refine (l1In_any _ _ _ _).mono ?_; rintro e w' ⟨rfl, rfl⟩)
    go_ret
    exact ⟨by simp [isSp, h], _, rfl⟩

set_option maxRecDepth 100000 in
theorem stSquare_any (a b : Sp) (ha : isSp a = true) (hb : isSp b = true) (w : World) : Calls Tryz.prog 35 #[.agg #[.int .i64 a.x, .int .i64 a.y], .agg #[.int .i64 b.x, .int .i64 b.y]] w fun e w' => e = .returned (.int .i64 (sq a b)) ∧ ∃ o1 o2, (w.alloc o1).alloc o2 = w' := by
  have h1 := isSp_iff.1 ha
  have h2 := isSp_iff.1 hb
  have h3 := sq_parts ha hb
  clear ha hb
  go_enter Tryz.func35, Tryz.ntmps35
  go_wp2
  go_ret
  exact ⟨rfl, _, _, rfl⟩

set_option maxRecDepth 100000 in
theorem l1Least_any (a b : Int) (w : World) : Calls Tryz.prog 72 #[.int .i64 a, .int .i64 b] w fun e w' => e = .returned (.int .i64 (min a b)) ∧ w = w' := by
  by_cases h : a < b
  · have e : Hid (min a b = a) := Lib.hid (by omega)
    go_enter Tryz.func72, Tryz.ntmps72
    go_wp2
    go_ret
    exact ⟨ret_int e.out.symm, rfl⟩
  · have e : Hid (min a b = b) := Lib.hid (by omega)
    go_enter Tryz.func72, Tryz.ntmps72
    go_wp2
    go_ret
    exact ⟨ret_int e.out.symm, rfl⟩

end Go.Proofs.YtdmgffcabjpihaaGreatDoor
