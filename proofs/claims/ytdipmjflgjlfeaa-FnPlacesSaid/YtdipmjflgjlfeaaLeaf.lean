/-
  Contracts of the small functions.
-/
import Derived.Test.YtdipmjflgjlfeaaPlain
import Derived.Test.YtdipmjflgjlfeaaChecked
import Derived.Tactics
import Derived.Tactics2
import Derived.WalkKit
import Derived.WalkSpells
import Derived.WalkLawsBesides
import Derived.Outline
import Derived.Deep.QuietTactic
import Derived.BigQuiet
import Derived.Lib.Hide
import Derived.Below
import Derived.KernelRfl
namespace Go.Proofs.Ytdipmjflgjlfeaa
open Go.RowKit

theorem ret_int {k : IntKind} {a b : Int} (h : a = b) : Ending.returned (.int k a) = .returned (.int k b) := by rw [h]

set_option maxRecDepth 100000 in
theorem within_any (n lo hi : Int) (w : World) : Calls Try.prog 78 #[.int .i64 n, .int .i64 lo, .int .i64 hi] w fun e w' => e = .returned (.bool (inR n lo hi)) ∧ w = w' := by
  by_cases h1 : lo ≤ n
  · go_enter Try.func78, Try.ntmps78
    go_wp2
    go_ret
    simp [inR, h1]
  · go_enter Try.func78, Try.ntmps78
    go_wp2
    go_ret
    simp [inR]
    omega

set_option maxRecDepth 100000 in
theorem isSpot_any (s : Sp) (w : World) : Calls Try.prog 73 #[.agg #[.int .i64 s.x, .int .i64 s.y]] w fun e w' => e = .returned (.bool (isSp s)) ∧ ∃ o, w.alloc o = w' := by
  cases h : inR s.x 0 1280
  all_goals
    go_enter Try.func73, Try.ntmps73
    go_wp2_with (go_at_call 78; refine (within_any _ _ _ _).mono ?_; rintro e w' ⟨rfl, rfl⟩)
    go_ret
    exact ⟨by simp [isSp, h], _, rfl⟩

set_option maxRecDepth 100000 in
theorem squareOf_any (a b : Sp) (ha : isSp a = true) (hb : isSp b = true) (w : World) : Calls Try.prog 77 #[.agg #[.int .i64 a.x, .int .i64 a.y], .agg #[.int .i64 b.x, .int .i64 b.y]] w fun e w' => e = .returned (.int .i64 (sq a b)) ∧ ∃ o1 o2, (w.alloc o1).alloc o2 = w' := by
  have h1 := isSp_iff.1 ha
  have h2 := isSp_iff.1 hb
  have h3 := sq_parts ha hb
  clear ha hb
  go_enter Try.func77, Try.ntmps77
  go_wp2
  go_ret
  exact ⟨rfl, _, _, rfl⟩

set_option maxRecDepth 100000 in
theorem l1In_any (n lo hi : Int) (w : World) : Calls Try.prog 103 #[.int .i64 n, .int .i64 lo, .int .i64 hi] w fun e w' => e = .returned (.bool (inR n lo hi)) ∧ w = w' := by
  by_cases h1 : lo ≤ n
  · go_enter Try.func103, Try.ntmps103
    go_wp2
    go_ret
    simp [inR, h1]
  · go_enter Try.func103, Try.ntmps103
    go_wp2
    go_ret
    simp [inR]
    omega

set_option maxRecDepth 100000 in
theorem snIn_any (n : Int) (w : World) : Calls Try.prog 86 #[.int .i64 n] w fun e w' => e = .returned (.bool (inR n 0 1000)) ∧ w = w' := by
  go_enter Try.func86, Try.ntmps86
  go_wp2_with (go_at_call 103; refine (l1In_any _ _ _ _).mono ?_; rintro e w' ⟨rfl, rfl⟩)
  go_ret
  exact ⟨rfl, rfl⟩

set_option maxRecDepth 100000 in
theorem stGood_any (s : Sp) (w : World) : Calls Try.prog 84 #[.agg #[.int .i64 s.x, .int .i64 s.y]] w fun e w' => e = .returned (.bool (isSp s)) ∧ ∃ o, w.alloc o = w' := by
  cases h : inR s.x 0 1280
  all_goals
    go_enter Try.func84, Try.ntmps84
    go_wp2_with (go_at_call 103; refine (l1In_any _ _ _ _).mono ?_; rintro e w' ⟨rfl, rfl⟩)
    go_ret
    exact ⟨by simp [isSp, h], _, rfl⟩

set_option maxRecDepth 100000 in
theorem stTwo_any (a b : Sp) (w : World) : Calls Try.prog 75 #[.agg #[.int .i64 a.x, .int .i64 a.y], .agg #[.int .i64 b.x, .int .i64 b.y]] w fun e w' => e = .returned (.bool (isSp a && isSp b)) ∧ Below w.heap.size w w' := by
  cases h : isSp a
  all_goals
    go_enter Try.func75, Try.ntmps75
    go_wp2_with (go_at_call 84; refine (stGood_any _ _).mono ?_; rintro e w' ⟨rfl, o, rfl⟩)
    go_ret
    exact ⟨by simp, by repeat (first | exact Below.refl _ _ | (refine Below.alloc ?_ (by simp; try omega) _))⟩

set_option maxRecDepth 100000 in
theorem stSquare_any (a b : Sp) (ha : isSp a = true) (hb : isSp b = true) (w : World) : Calls Try.prog 91 #[.agg #[.int .i64 a.x, .int .i64 a.y], .agg #[.int .i64 b.x, .int .i64 b.y]] w fun e w' => e = .returned (.int .i64 (sq a b)) ∧ ∃ o1 o2, (w.alloc o1).alloc o2 = w' := by
  have h1 := isSp_iff.1 ha
  have h2 := isSp_iff.1 hb
  have h3 := sq_parts ha hb
  clear ha hb
  go_enter Try.func91, Try.ntmps91
  go_wp2
  go_ret
  exact ⟨rfl, _, _, rfl⟩

set_option maxRecDepth 100000 in
theorem l1Least_any (a b : Int) (w : World) : Calls Try.prog 71 #[.int .i64 a, .int .i64 b] w fun e w' => e = .returned (.int .i64 (min a b)) ∧ w = w' := by
  by_cases h : a < b
  · have e : Hid (min a b = a) := Lib.hid (by omega)
    go_enter Try.func71, Try.ntmps71
    go_wp2
    go_ret
    exact ⟨ret_int e.out.symm, rfl⟩
  · have e : Hid (min a b = b) := Lib.hid (by omega)
    go_enter Try.func71, Try.ntmps71
    go_wp2
    go_ret
    exact ⟨ret_int e.out.symm, rfl⟩

set_option maxRecDepth 100000 in
theorem l1Most_any (a b : Int) (w : World) : Calls Try.prog 117 #[.int .i64 a, .int .i64 b] w fun e w' => e = .returned (.int .i64 (max a b)) ∧ w = w' := by
  by_cases h : b < a
  · have e : Hid (max a b = a) := Lib.hid (by omega)
    go_enter Try.func117, Try.ntmps117
    go_wp2
    go_ret
    exact ⟨ret_int e.out.symm, rfl⟩
  · have e : Hid (max a b = b) := Lib.hid (by omega)
    go_enter Try.func117, Try.ntmps117
    go_wp2
    go_ret
    exact ⟨ret_int e.out.symm, rfl⟩
end Go.Proofs.Ytdipmjflgjlfeaa
