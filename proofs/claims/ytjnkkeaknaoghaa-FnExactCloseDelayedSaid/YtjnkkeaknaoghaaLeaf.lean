/-
  Contracts of the small functions.
-/
import Derived.Test.YtjnkkeaknaoghaaPlain
import Derived.Test.YtjnkkeaknaoghaaChecked
import Derived.Tactics
import Derived.Tactics2
import Derived.WalkKit
import Derived.WalkSpells
import Derived.WalkLawsBesides
import Derived.Outline
import Derived.Deep.QuietTactic
import Derived.BigQuiet
import Derived.Lib.Hide
import Derived.Below
import Derived.KernelRfl
namespace Go.Proofs.Ytjnkkeaknaoghaa
open Go.RowKit

theorem ret_int {k : IntKind} {a b : Int} (h : a = b) : Ending.returned (.int k a) = .returned (.int k b) := by rw [h]

theorem within_any (n lo hi : Int) (w : World) : Calls Try.prog 67 #[.int .i64 n, .int .i64 lo, .int .i64 hi] w fun e w' => e = .returned (.bool (inR n lo hi)) ∧ w = w' := by
  by_cases h1 : lo ≤ n
  · go_enter Try.func67, Try.ntmps67
    go_wp2
    go_ret
    simp [inR, h1]
  · go_enter Try.func67, Try.ntmps67
    go_wp2
    go_ret
    simp [inR]
    omega

theorem isSpot_any (s : Sp) (w : World) : Calls Try.prog 98 #[.agg #[.int .i64 s.x, .int .i64 s.y]] w fun e w' => e = .returned (.bool (isSp s)) ∧ ∃ o, w.alloc o = w' := by
  cases h : inR s.x 0 1280
  all_goals
    go_enter Try.func98, Try.ntmps98
    go_wp2_with (go_at_call 67; refine (within_any _ _ _ _).mono ?_; rintro e w' ⟨rfl, rfl⟩)
    go_ret
    exact ⟨by simp [isSp, h], _, rfl⟩

theorem squareOf_any (a b : Sp) (ha : isSp a = true) (hb : isSp b = true) (w : World) : Calls Try.prog 86 #[.agg #[.int .i64 a.x, .int .i64 a.y], .agg #[.int .i64 b.x, .int .i64 b.y]] w fun e w' => e = .returned (.int .i64 (sq a b)) ∧ ∃ o1 o2, (w.alloc o1).alloc o2 = w' := by
  have h1 := isSp_iff.1 ha
  have h2 := isSp_iff.1 hb
  have h3 := sq_parts ha hb
  clear ha hb
  go_enter Try.func86, Try.ntmps86
  go_wp2
  go_ret
  exact ⟨rfl, _, _, rfl⟩

theorem l1In_any (n lo hi : Int) (w : World) : Calls Try.prog 64 #[.int .i64 n, .int .i64 lo, .int .i64 hi] w fun e w' => e = .returned (.bool (inR n lo hi)) ∧ w = w' := by
  by_cases h1 : lo ≤ n
  · go_enter Try.func64, Try.ntmps64
    go_wp2
    go_ret
    simp [inR, h1]
  · go_enter Try.func64, Try.ntmps64
    go_wp2
    go_ret
    simp [inR]
    omega

theorem stGood_any (s : Sp) (w : World) : Calls Try.prog 123 #[.agg #[.int .i64 s.x, .int .i64 s.y]] w fun e w' => e = .returned (.bool (isSp s)) ∧ ∃ o, w.alloc o = w' := by
  cases h : inR s.x 0 1280
  all_goals
    go_enter Try.func123, Try.ntmps123
    go_wp2_with (go_at_call 64; refine (l1In_any _ _ _ _).mono ?_; rintro e w' ⟨rfl, rfl⟩)
    go_ret
    exact ⟨by simp [isSp, h], _, rfl⟩

theorem stSquare_any (a b : Sp) (ha : isSp a = true) (hb : isSp b = true) (w : World) : Calls Try.prog 89 #[.agg #[.int .i64 a.x, .int .i64 a.y], .agg #[.int .i64 b.x, .int .i64 b.y]] w fun e w' => e = .returned (.int .i64 (sq a b)) ∧ ∃ o1 o2, (w.alloc o1).alloc o2 = w' := by
  have h1 := isSp_iff.1 ha
  have h2 := isSp_iff.1 hb
  have h3 := sq_parts ha hb
  clear ha hb
  go_enter Try.func89, Try.ntmps89
  go_wp2
  go_ret
  exact ⟨rfl, _, _, rfl⟩

theorem toSpot_any (s : Sp) (w : World) : Calls Try.prog 71 #[.agg #[.int .i64 s.x, .int .i64 s.y]] w fun e w' => e = .returned (.agg #[.int .i64 s.x, .int .i64 s.y]) ∧ Below w.heap.size w w' := by
  go_enter Try.func71, Try.ntmps71
  go_wp2
  refine bodyPost_ret (v := .agg #[.int .i64 s.x, .int .i64 s.y]) (by simp [results, Try.results71, go_sem]) rfl ⟨rfl, ?_⟩
  repeat (first | exact Below.refl _ _ | (refine Below.setCell ?_ (by simp; try omega) _) | (refine Below.alloc ?_ (by simp; try omega) _))

theorem eqSpot_any (a b : Sp) (w : World) : Calls Try.prog 73 #[.agg #[.int .i64 a.x, .int .i64 a.y], .agg #[.int .i64 b.x, .int .i64 b.y]] w fun e w' => e = .returned (.bool (decide (a = b))) ∧ ∃ o1 o2, (w.alloc o1).alloc o2 = w' := by
  obtain ⟨ax, ay⟩ := a
  obtain ⟨bx, bY⟩ := b
  by_cases h1 : ax = bx
  · subst h1
    by_cases h2 : ay = bY
    · subst h2
      go_enter Try.func73, Try.ntmps73
      go_wp2
      go_ret
      exact ⟨by simp, _, _, rfl⟩
    · have e2 : (ay != bY) = true := by simpa using h2
      go_enter Try.func73, Try.ntmps73
      go_wp2
      go_ret
      exact ⟨by simp [h2], _, _, rfl⟩
  · have e2 : (ax != bx) = true := by simpa using h1
    go_enter Try.func73, Try.ntmps73
    go_wp2
    go_ret
    exact ⟨by simp [h1], _, _, rfl⟩

theorem l1Least_any (a b : Int) (w : World) : Calls Try.prog 133 #[.int .i64 a, .int .i64 b] w fun e w' => e = .returned (.int .i64 (min a b)) ∧ w = w' := by
  by_cases h : a < b
  · have e : Hid (min a b = a) := Lib.hid (by omega)
    go_enter Try.func133, Try.ntmps133
    go_wp2
    go_ret
    exact ⟨ret_int e.out.symm, rfl⟩
  · have e : Hid (min a b = b) := Lib.hid (by omega)
    go_enter Try.func133, Try.ntmps133
    go_wp2
    go_ret
    exact ⟨ret_int e.out.symm, rfl⟩

theorem l1Most_any (a b : Int) (w : World) : Calls Try.prog 96 #[.int .i64 a, .int .i64 b] w fun e w' => e = .returned (.int .i64 (max a b)) ∧ w = w' := by
  by_cases h : b < a
  · have e : Hid (max a b = a) := Lib.hid (by omega)
    go_enter Try.func96, Try.ntmps96
    go_wp2
    go_ret
    exact ⟨ret_int e.out.symm, rfl⟩
  · have e : Hid (max a b = b) := Lib.hid (by omega)
    go_enter Try.func96, Try.ntmps96
    go_wp2
    go_ret
    exact ⟨ret_int e.out.symm, rfl⟩
end Go.Proofs.Ytjnkkeaknaoghaa
