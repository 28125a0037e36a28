/-
  Contracts and plain facts of small functions, joined to one text: Plain Leaf Rgl Plain2 Abp Bit Lcv Mem Lst Cpy CpySp Ret Keep App Frame Mov Frc.
-/
import Derived.WalkKit
import Derived.Test.YthehcjfljjfnmaaGreatChecked
import Derived.Tactics
import Derived.Tactics2
import Derived.WalkSpells
import Derived.WalkLawsBesides
import Derived.Outline
import Derived.Deep.QuietTactic
import Derived.BigQuiet
import Derived.Lib.Hide
import Derived.Below
import Derived.KernelRfl
import Derived.Deep.RegionHeld3
import Derived.Test.YthehcjfljjfnmaaGreatProg
import Derived.IntWalk
import Derived.Laws.Bits64b
import Derived.Laws.OwnMore
import Derived.Deep.Draws
import Derived.OwnWalk
import Derived.LoopTactic
import Derived.Lib.QuietBelow
import Derived.Maps.AppendAt
import Derived.Test.YthehcjfljjfnmaaGreatRows
import Derived.ProofKit
import Derived.OpenShut
import Derived.Deep.Slices
import Derived.Deep.Fields
import Derived.ChangeSame
import Derived.Carry
/-
  Plain mathematics, no program in sight: what the small functions compute.
-/
namespace Go.Proofs.YthehcjfljjfnmaaGreat
open Go.RowKit

/-- A spot: two numbers. -/
structure Sp where
  x : Int
  y : Int
deriving DecidableEq

def okInt (n : Int) : Prop := -9223372036854775808 ≤ n ∧ n ≤ 9223372036854775807
def okSp (s : Sp) : Prop := okInt s.x ∧ okInt s.y

/-- n lies in lo..hi. -/
def inR (n lo hi : Int) : Bool := decide (lo ≤ n) && decide (n ≤ hi)
theorem inR_iff {n lo hi : Int} : inR n lo hi = true ↔ lo ≤ n ∧ n ≤ hi := by simp [inR]
theorem inR_no {n lo hi : Int} : inR n lo hi = false ↔ (n < lo ∨ hi < n) := by
  rw [← Bool.not_eq_true, inR_iff]; omega

def isSp (s : Sp) : Bool := inR s.x 0 1280 && inR s.y 0 672
theorem isSp_iff {s : Sp} : isSp s = true ↔ (0 ≤ s.x ∧ s.x ≤ 1280) ∧ (0 ≤ s.y ∧ s.y ≤ 672) := by simp [isSp, inR]

def sq (a b : Sp) : Int := (a.x - b.x) * (a.x - b.x) + (a.y - b.y) * (a.y - b.y)

theorem mul_self_bd {d m : Int} (h1 : -m ≤ d) (h2 : d ≤ m) : 0 ≤ d * d ∧ d * d ≤ m * m := by
  refine ⟨by rcases Int.le_total 0 d with h | h; exact Int.mul_nonneg h h; exact Int.mul_nonneg_of_nonpos_of_nonpos h h, ?_⟩
  rcases Int.le_total 0 d with h | h
  · exact Int.mul_le_mul h2 h2 h (by omega)
  · have : d * d = (-d) * (-d) := (Int.neg_mul_neg d d).symm
    rw [this]
    exact Int.mul_le_mul (by omega) (by omega) (by omega) (by omega)

theorem sq_parts {a b : Sp} (ha : isSp a = true) (hb : isSp b = true) :
    (0 ≤ (a.x - b.x) * (a.x - b.x) ∧ (a.x - b.x) * (a.x - b.x) ≤ 1638400) ∧ (0 ≤ (a.y - b.y) * (a.y - b.y) ∧ (a.y - b.y) * (a.y - b.y) ≤ 451584) := by
  have h1 := isSp_iff.1 ha
  have h2 := isSp_iff.1 hb
  have h3 := mul_self_bd (d := a.x - b.x) (m := 1280) (by omega) (by omega)
  have h4 := mul_self_bd (d := a.y - b.y) (m := 672) (by omega) (by omega)
  omega
theorem sq_bd {a b : Sp} (ha : isSp a = true) (hb : isSp b = true) : 0 ≤ sq a b ∧ sq a b ≤ 2089984 := by
  have := sq_parts ha hb
  unfold sq
  omega
theorem sq_comm (a b : Sp) : sq a b = sq b a := by
  have h (c d : Int) : (c - d) * (c - d) = (d - c) * (d - c) := by
    have : c - d = -(d - c) := by omega
    rw [this, Int.neg_mul_neg]
  unfold sq
  rw [h a.x, h a.y]

theorem all_take_zero {α : Type} (L : List α) (f : α → Bool) : Hid ((L.take 0).all f = true) := by show _ = true; simp
theorem all_take_succ {α : Type} {L : List α} {f : α → Bool} {k : Nat} {s : α} (H : Hid ((L.take k).all f = true)) (hs : Hid (L[k]? = some s)) (h : f s = true) : Hid ((L.take (k + 1)).all f = true) := by
  show _ = true
  rw [List.take_add_one, hs.out, List.all_append, H.out]
  simp [h]
theorem all_no {α : Type} {L : List α} {f : α → Bool} {k : Nat} {s : α} (hs : Hid (L[k]? = some s)) (h : f s = false) : L.all f = false := by
  rw [List.all_eq_false]
  exact ⟨s, List.mem_of_getElem? hs.out, by simp [h]⟩
theorem all_yes {α : Type} {L : List α} {f : α → Bool} {k : Nat} (H : Hid ((L.take k).all f = true)) (h : L.length ≤ k) : L.all f = true := by
  have := H.out
  rwa [List.take_of_length_le h] at this
theorem ret_bool {a b : Bool} (h : a = b) : Ending.returned (.bool a) = .returned (.bool b) := by rw [h]

/-- Four thousand eight hundred times t, squared (as the program reckons it). -/
def way2 (t : Int) : Int := 4800 * t * 4800 * t
theorem way2_eq (t : Int) : way2 t = 23040000 * (t * t) := by
  have h : 4800 * t * 4800 * t = (4800 * 4800) * (t * t) := by
    rw [Int.mul_right_comm 4800 t 4800, Int.mul_assoc (4800 * 4800) t t]
  exact h
theorem way2_mono {s t : Int} (h0 : 0 ≤ s) (h : s ≤ t) : way2 s ≤ way2 t := by
  rw [way2_eq, way2_eq]
  have := Int.mul_le_mul h h h0 (by omega)
  omega
theorem way2_nonneg {t : Int} (h : 0 ≤ t) : 0 ≤ way2 t := by have := way2_mono (Int.le_refl 0) h; have e : way2 0 = 0 := rfl; omega

/-- The least time (in thousandths) in which sound goes a way with a square. -/
def sndT (n : Int) : Nat := ((List.range 1001).find? fun t : Nat => decide (1000000 * n ≤ way2 t)).getD 1001
theorem sndT_eq {n : Int} {t : Nat} (ht : t ≤ 1000) (h1 : 1000000 * n ≤ way2 t) (h2 : ∀ s : Nat, s < t → way2 s < 1000000 * n) : sndT n = t := by
  have : (List.range 1001).find? (fun t : Nat => decide (1000000 * n ≤ way2 t)) = some t := by
    rw [List.find?_range_eq_some]
    refine ⟨by simpa using h1, by simp; omega, fun j hj => ?_⟩
    have := h2 j hj
    simp; omega
  unfold sndT
  rw [this]
  rfl
theorem sndT_spec {n : Int} (_h0 : 0 ≤ n) (h : n ≤ 2089984) : sndT n ≤ 302 ∧ 1000000 * n ≤ way2 (sndT n) ∧ ∀ s : Nat, s < sndT n → way2 s < 1000000 * n := by
  have hex : ∃ t : Nat, t ≤ 302 ∧ 1000000 * n ≤ way2 t ∧ ∀ s : Nat, s < t → way2 s < 1000000 * n := by
    have key : ∀ k : Nat, k ≤ 302 → (∃ t : Nat, t ≤ 302 ∧ 1000000 * n ≤ way2 t ∧ ∀ s : Nat, s < t → way2 s < 1000000 * n) ∨ ∀ s : Nat, s < k → way2 s < 1000000 * n := by
      intro k
      induction k with
      | zero => intro _; exact .inr (fun s hs => absurd hs (by omega))
      | succ k ih =>
        intro hk
        rcases ih (by omega) with h1 | h1
        · exact .inl h1
        · by_cases h2 : 1000000 * n ≤ way2 k
          · exact .inl ⟨k, by omega, h2, h1⟩
          · refine .inr fun s hs => ?_
            rcases Nat.lt_or_eq_of_le (Nat.le_of_lt_succ hs) with h3 | h3
            · exact h1 s h3
            · subst h3; omega
    rcases key 302 (by omega) with h1 | h1
    · exact h1
    · refine ⟨302, by omega, ?_, h1⟩
      have e : way2 ((302 : Nat) : Int) = 2101340160000 := rfl
      omega
  obtain ⟨t, h1, h2, h3⟩ := hex
  rw [sndT_eq (by omega) h2 h3]
  exact ⟨h1, h2, h3⟩
end Go.Proofs.YthehcjfljjfnmaaGreat


/-
  Contracts of the small functions.
-/
namespace Go.Proofs.YthehcjfljjfnmaaGreat
open Go.RowKit

theorem ret_int {k : IntKind} {a b : Int} (h : a = b) : Ending.returned (.int k a) = .returned (.int k b) := by rw [h]

set_option maxRecDepth 100000 in
theorem within_any (n lo hi : Int) (w : World) : Calls Tryz.prog 43 #[.int .i64 n, .int .i64 lo, .int .i64 hi] w fun e w' => e = .returned (.bool (inR n lo hi)) ∧ w = w' := by
  by_cases h1 : lo ≤ n
  · go_enter Tryz.func43, Tryz.ntmps43
    go_wp2
    go_ret
    simp [inR, h1]
  · go_enter Tryz.func43, Tryz.ntmps43
    go_wp2
    go_ret
    simp [inR]
    omega

set_option maxRecDepth 100000 in
theorem isSpot_any (s : Sp) (w : World) : Calls Tryz.prog 80 #[.agg #[.int .i64 s.x, .int .i64 s.y]] w fun e w' => e = .returned (.bool (isSp s)) ∧ ∃ o, w.alloc o = w' := by
  cases h : inR s.x 0 1280
  all_goals
    go_enter Tryz.func80, Tryz.ntmps80
    go_wp2_with (go_at_call 43; refine (within_any _ _ _ _).mono ?_; rintro e w' ⟨rfl, rfl⟩)
    go_ret
    exact ⟨by simp [isSp, h], _, rfl⟩

set_option maxRecDepth 100000 in
theorem squareOf_any (a b : Sp) (ha : isSp a = true) (hb : isSp b = true) (w : World) : Calls Tryz.prog 74 #[.agg #[.int .i64 a.x, .int .i64 a.y], .agg #[.int .i64 b.x, .int .i64 b.y]] w fun e w' => e = .returned (.int .i64 (sq a b)) ∧ ∃ o1 o2, (w.alloc o1).alloc o2 = w' := by
  have h1 := isSp_iff.1 ha
  have h2 := isSp_iff.1 hb
  have h3 := sq_parts ha hb
  clear ha hb
  go_enter Tryz.func74, Tryz.ntmps74
  go_wp2
  go_ret
  exact ⟨rfl, _, _, rfl⟩

set_option maxRecDepth 100000 in
theorem l1In_any (n lo hi : Int) (w : World) : Calls Tryz.prog 45 #[.int .i64 n, .int .i64 lo, .int .i64 hi] w fun e w' => e = .returned (.bool (inR n lo hi)) ∧ w = w' := by
  by_cases h1 : lo ≤ n
  · go_enter Tryz.func45, Tryz.ntmps45
    go_wp2
    go_ret
    simp [inR, h1]
  · go_enter Tryz.func45, Tryz.ntmps45
    go_wp2
    go_ret
    simp [inR]
    omega

set_option maxRecDepth 100000 in
theorem stGood_any (s : Sp) (w : World) : Calls Tryz.prog 83 #[.agg #[.int .i64 s.x, .int .i64 s.y]] w fun e w' => e = .returned (.bool (isSp s)) ∧ ∃ o, w.alloc o = w' := by
  cases h : inR s.x 0 1280
  all_goals
    go_enter Tryz.func83, Tryz.ntmps83
    go_wp2_with (go_at_call 45; refine (l1In_any _ _ _ _).mono ?_; rintro e w' ⟨rfl, rfl⟩)
    go_ret
    exact ⟨by simp [isSp, h], _, rfl⟩

set_option maxRecDepth 100000 in
theorem stSquare_any (a b : Sp) (ha : isSp a = true) (hb : isSp b = true) (w : World) : Calls Tryz.prog 112 #[.agg #[.int .i64 a.x, .int .i64 a.y], .agg #[.int .i64 b.x, .int .i64 b.y]] w fun e w' => e = .returned (.int .i64 (sq a b)) ∧ ∃ o1 o2, (w.alloc o1).alloc o2 = w' := by
  have h1 := isSp_iff.1 ha
  have h2 := isSp_iff.1 hb
  have h3 := sq_parts ha hb
  clear ha hb
  go_enter Tryz.func112, Tryz.ntmps112
  go_wp2
  go_ret
  exact ⟨rfl, _, _, rfl⟩

set_option maxRecDepth 100000 in
theorem l1Least_any (a b : Int) (w : World) : Calls Tryz.prog 72 #[.int .i64 a, .int .i64 b] w fun e w' => e = .returned (.int .i64 (min a b)) ∧ w = w' := by
  by_cases h : a < b
  · have e : Hid (min a b = a) := Lib.hid (by omega)
    go_enter Tryz.func72, Tryz.ntmps72
    go_wp2
    go_ret
    exact ⟨ret_int e.out.symm, rfl⟩
  · have e : Hid (min a b = b) := Lib.hid (by omega)
    go_enter Tryz.func72, Tryz.ntmps72
    go_wp2
    go_ret
    exact ⟨ret_int e.out.symm, rfl⟩

set_option maxRecDepth 100000 in
theorem l1Most_any (a b : Int) (w : World) : Calls Tryz.prog 49 #[.int .i64 a, .int .i64 b] w fun e w' => e = .returned (.int .i64 (max a b)) ∧ w = w' := by
  by_cases h : b < a
  · have e : Hid (max a b = a) := Lib.hid (by omega)
    go_enter Tryz.func49, Tryz.ntmps49
    go_wp2
    go_ret
    exact ⟨ret_int e.out.symm, rfl⟩
  · have e : Hid (max a b = b) := Lib.hid (by omega)
    go_enter Tryz.func49, Tryz.ntmps49
    go_wp2
    go_ret
    exact ⟨ret_int e.out.symm, rfl⟩
end Go.Proofs.YthehcjfljjfnmaaGreat


/-
  A region that draws its order, in which S need not hold behind one operation that waits for all others (the last store).
-/
namespace Go.Proofs.YthehcjfljjfnmaaGreat
open Go

section
variable {P : Program} {ops : Array Oper} {Q : Exit → Act → World → Prop} {md : Region.Mode} {S : World → Prop} {last : Nat}

/-- Whatever order is picked from here on, and S holds behind every operation but the last one. -/
def wpAnyL (P : Program) (md : Region.Mode) (ops : Array Oper) (Q : Exit → Act → World → Prop) (S : World → Prop) (last : Nat) : Nat → Array Bool → Act → World → Prop
  | 0, listed, a, w => Region.ready md ops listed = [] ∧ Q .normal a w
  | fuel + 1, listed, a, w =>
    (Region.ready md ops listed = [] → Q .normal a w) ∧
    ∀ i ∈ Region.ready md ops listed, wpOp P ops Q i (fun a' w' => (i ≠ last → S w') ∧ wpAnyL P md ops Q S last fuel (listed.setIfInBounds i true) a' w') a w
theorem wpAny_of_L : ∀ (fuel : Nat) (listed : Array Bool) (a : Act) (w : World), wpAnyL P md ops Q S last fuel listed a w → wpAny P md ops Q fuel listed a w
  | 0, _, _, _, h => h
  | fuel + 1, _, _, _, h => ⟨h.1, fun i hi => wpOp_mono (fun a' w' h' => wpAny_of_L fuel _ a' w' h'.2) (h.2 i hi)⟩
/-- The last operation waits for number i. -/
def waitsB (md : Region.Mode) (ops : Array Oper) (last i : Nat) : Bool := (ops[last]?).any fun o => o.after.any fun e => Region.binds md e && e.on == i
theorem waits_not {listed : Array Bool} {i : Nat} (hw : waitsB md ops last i = true) (hun : listed.getD i true = false) : last ∉ Region.ready md ops listed := fun hj => by
  obtain ⟨_, oj, hoj, hall⟩ := mem_ready.1 hj
  unfold waitsB at hw
  rw [hoj] at hw
  simp only [Option.any_some, Array.any_eq_true, Bool.and_eq_true, beq_iff_eq] at hw
  obtain ⟨x, hx, hb, he⟩ := hw
  have h1 := hall oj.after[x] (Array.getElem_mem hx) hb
  rw [he] at h1
  rcases Nat.lt_or_ge i listed.size with h' | h'
  · simp [h'] at hun h1; rw [hun] at h1; cases h1
  · simp [Array.getElem?_eq_none h'] at h1
theorem wpAnyL_first {i : Nat} {oi : Oper} {v : Value} (hi : ops[i]? = some oi) (hsel : ∀ (j : Nat) (o : Oper) cs b, ops[j]? = some o → o.op ≠ .select cs b) (hwt : waitsB md ops last i = true)
    (hQ : ∀ c a w, Q (.panic c) (a.put oi.dst v) w → Q (.panic c) a w) :
    ∀ (fuel : Nat) (listed : Array Bool) (a : Act) (w : World),
      (∀ j oj, ops[j]? = some oj → j ≠ i → listed.getD j true = false → (∀ e ∈ oj.after, Region.binds md e = true → e.on ≠ i) → oi.apart ops oj = true) →
      i ∈ Region.ready md ops listed → YieldsIf P ops S oi v a → S w →
      wpAnyL P md ops Q S last fuel (listed.setIfInBounds i true) (a.put oi.dst v) w → wpAnyL P md ops Q S last (fuel + 1) listed a w := by
  intro fuel
  induction fuel with
  | zero =>
    intro listed a w _ hr hy hS H
    refine ⟨fun h => (by rw [h] at hr; cases hr), fun j hj => ?_⟩
    by_cases hji : j = i
    · subst hji; exact hy.wpOp hi hS ⟨fun _ => hS, H⟩
    · have := ready_mono hj hji
      rw [H.1] at this
      cases this
  | succ fuel ih =>
    intro listed a w hfree hr hy hS H
    refine ⟨fun h => (by rw [h] at hr; cases hr), fun j hj => ?_⟩
    by_cases hji : j = i
    · subst hji; exact hy.wpOp hi hS ⟨fun _ => hS, H⟩
    · have h1 := H.2 j (ready_mono hj hji)
      have hjl : j ≠ last := fun e => by subst e; exact waits_not hwt (mem_ready.1 hr).1 hj
      obtain ⟨hjun, oj, hoj, hall⟩ := mem_ready.1 hj
      have hnot : ∀ e ∈ oj.after, Region.binds md e = true → e.on ≠ i := fun e he hb heq => by
        have h1 := hall e he hb
        have h0 := (mem_ready.1 hr).1
        rw [heq] at h1
        rcases Nat.lt_or_ge i listed.size with h' | h'
        · simp [h'] at h0 h1; rw [h0] at h1; cases h1
        · simp [Array.getElem?_eq_none h'] at h1
      have h2 := wpOp_putIf hoj (hfree j oj hoj hji hjun hnot) (fun cs b => hsel i oi cs b hi) (fun cs b => hsel j oj cs b hoj) hQ hy h1
      have hfree' : ∀ k ok, ops[k]? = some ok → k ≠ i → (listed.setIfInBounds j true).getD k true = false →
          (∀ e ∈ ok.after, Region.binds md e = true → e.on ≠ i) → oi.apart ops ok = true := fun k ok hk hki hun hno => by
        refine hfree k ok hk hki ?_ hno
        by_cases hjk : j = k
        · subst hjk; exact hjun
        · rw [getD_set_ne true hjk] at hun; exact hun
      refine wpOp_mono (fun a' w' h3 => ⟨h3.2.1, ih (listed.setIfInBounds j true) a' w' hfree' (ready_mono hr (Ne.symm hji)) h3.1 (h3.2.1 hjl) ?_⟩) h2
      rw [Array.setIfInBounds_comm _ _ hji]
      exact h3.2.2
theorem wpAnyL_take {i : Nat} {oi : Oper} {v : Value} {fuel : Nat} {listed : Array Bool} {a : Act} {w : World} (hi : ops[i]? = some oi)
    (hs : Region.noSelect ops = true) (hwt : waitsB md ops last i = true) (hf : Region.free md ops listed i = true) (hr : (Region.ready md ops listed).contains i = true)
    (hQ : ∀ c a w, Q (.panic c) (a.put oi.dst v) w → Q (.panic c) a w) (hy : YieldsIf P ops S oi v a) (hS : S w)
    (h : wpAnyL P md ops Q S last fuel (listed.setIfInBounds i true) (a.put oi.dst v) w) : wpAnyL P md ops Q S last (fuel + 1) listed a w :=
  wpAnyL_first hi (Region.noSelect_spec hs) hwt hQ fuel listed a w (Region.free_spec hi hf) (by simpa using hr) hy hS h
/-- One operation alone may come up. -/
theorem wpAnyL_only {i : Nat} {o : Oper} {fuel : Nat} {listed : Array Bool} {a : Act} {w : World} (ho : ops[i]? = some o) (hr : Region.ready md ops listed = [i])
    (h : ∀ K' : Act → World → Prop, Shut (∀ a w, (i ≠ last → S w) → wpAnyL P md ops Q S last fuel (listed.setIfInBounds i true) a w → K' a w) → if Region.wanted o (yielded ops a.tmps) = true then Oper.wp P o a w K' Q else K' (a.put o.dst undef) w) :
    wpAnyL P md ops Q S last (fuel + 1) listed a w := by
  refine ⟨fun h0 => (by rw [hr] at h0; cases h0), fun j hj => ?_⟩
  rw [hr] at hj
  have e : j = i := by simpa using hj
  subst e
  exact wpOp_step ho (fun K' hK => h K' (fun a w hS hW => hK a w ⟨hS, hW⟩))
theorem wpAnyL_done {listed : Array Bool} {a : Act} {w : World} (hr : Region.ready md ops listed = []) (h : Q .normal a w) : wpAnyL P md ops Q S last 0 listed a w := ⟨hr, h⟩
theorem wp_region_L {id : Nat} {a : Act} {w : World} (last : Nat) (S : World → Prop) (hm : P.follows .mixedOrders = true) (hS : S w.drew)
    (h : S w.drew → wpAnyL P .any ops Q S last ops.size (Array.replicate ops.size false) a w.drew) : (Code.region id ops true).wp P Q a w :=
  wp_region_any hm (wpAny_of_L _ _ _ _ (h hS))
end
end Go.Proofs.YthehcjfljjfnmaaGreat


/-
  Plain mathematics on lists of numbers: least, greatest, the first least, times.
-/
namespace Go.Proofs.YthehcjfljjfnmaaGreat
open Go.RowKit

def srcOk (L : List Sp) : Bool := (L.all isSp && decide (L.length ≤ 40)) && decide (0 < L.length)
theorem srcOk_iff {L : List Sp} : srcOk L = true ↔ L.all isSp = true ∧ L.length ≤ 40 ∧ 0 < L.length := by simp [srcOk, and_assoc]
theorem all_at {α : Type} {L : List α} {f : α → Bool} (h : L.all f = true) {k : Nat} {a : α} (hk : L[k]? = some a) : f a = true := List.all_eq_true.1 h a (List.mem_of_getElem? hk)

/-- The time between two spots; the times of all spots at one. -/
def tm (a b : Sp) : Int := sndT (sq a b)
theorem tm_comm (a b : Sp) : tm a b = tm b a := by unfold tm; rw [sq_comm]
theorem tm_bd {a b : Sp} (ha : isSp a = true) (hb : isSp b = true) : 0 ≤ tm a b ∧ tm a b ≤ 302 := by
  have h := sq_bd ha hb
  have := (sndT_spec h.1 h.2).1
  unfold tm
  omega
def times (L : List Sp) (a : Sp) : List Int := L.map fun b => tm a b
theorem times_len (L : List Sp) (a : Sp) : (times L a).length = L.length := by simp [times]
theorem times_at {L : List Sp} {a b : Sp} {k : Nat} (h : L[k]? = some b) : (times L a)[k]? = some (tm a b) := by simp [times, h]
theorem times_bd {L : List Sp} {a : Sp} (hL : L.all isSp = true) (ha : isSp a = true) {k : Nat} {t : Int} (h : (times L a)[k]? = some t) : 0 ≤ t ∧ t ≤ 302 := by
  simp only [times, List.getElem?_map, Option.map_eq_some_iff] at h
  obtain ⟨b, hb, rfl⟩ := h
  exact tm_bd ha (all_at hL hb)

/-- Folding over the first so many. -/
theorem fold_succ {α β : Type} (f : β → α → β) (z : β) {L : List α} {k : Nat} {a : α} (h : L[k]? = some a) : (L.take (k + 1)).foldl f z = f ((L.take k).foldl f z) a := by
  rw [List.take_add_one, h, List.foldl_append]
  rfl
theorem fold_all {α β : Type} (f : β → α → β) (z : β) {L : List α} {k : Nat} (h : L.length ≤ k) : (L.take k).foldl f z = L.foldl f z := by rw [List.take_of_length_le h]

def lowOf (L : List Int) : Int := L.foldl min (L.headD 0)
def highOf (L : List Int) : Int := L.foldl max (L.headD 0)
def spr (L : List Sp) (a : Sp) : Int := highOf (times L a) - lowOf (times L a)

theorem foldl_min_le (L : List Int) : ∀ z : Int, L.foldl min z ≤ z := by
  induction L with
  | nil => intro z; exact Int.le_refl _
  | cons x L ih => intro z; have := ih (min z x); simp only [List.foldl_cons]; omega
theorem foldl_min_ge (L : List Int) (m : Int) : ∀ z : Int, m ≤ z → (∀ x ∈ L, m ≤ x) → m ≤ L.foldl min z := by
  induction L with
  | nil => intro z h _; exact h
  | cons x L ih => intro z h hx; exact ih _ (by have := hx x (by simp); omega) (fun y hy => hx y (by simp [hy]))
theorem foldl_min_mem (L : List Int) : ∀ z : Int, ∀ x ∈ L, L.foldl min z ≤ x := by
  induction L with
  | nil => intro z x h; cases h
  | cons y L ih =>
    intro z x hx
    simp only [List.foldl_cons]
    rcases List.mem_cons.1 hx with rfl | hx
    · have := foldl_min_le L (min z x); omega
    · exact ih _ x hx
theorem foldl_max_ge (L : List Int) : ∀ z : Int, z ≤ L.foldl max z := by
  induction L with
  | nil => intro z; exact Int.le_refl _
  | cons x L ih => intro z; have := ih (max z x); simp only [List.foldl_cons]; omega
theorem foldl_max_le (L : List Int) (m : Int) : ∀ z : Int, z ≤ m → (∀ x ∈ L, x ≤ m) → L.foldl max z ≤ m := by
  induction L with
  | nil => intro z h _; exact h
  | cons x L ih => intro z h hx; exact ih _ (by have := hx x (by simp); omega) (fun y hy => hx y (by simp [hy]))
theorem foldl_max_mem (L : List Int) : ∀ z : Int, ∀ x ∈ L, x ≤ L.foldl max z := by
  induction L with
  | nil => intro z x h; cases h
  | cons y L ih =>
    intro z x hx
    simp only [List.foldl_cons]
    rcases List.mem_cons.1 hx with rfl | hx
    · have := foldl_max_ge L (max z x); omega
    · exact ih _ x hx
theorem foldl_max_of_mem (L : List Int) (z : Int) (h : ∃ x ∈ L, z ≤ x) (z' : Int) (h' : ∃ x ∈ L, z' ≤ x) : L.foldl max z = L.foldl max z' := by
  obtain ⟨x, hx, hzx⟩ := h
  obtain ⟨y, hy, hzy⟩ := h'
  have a1 := foldl_max_mem L z'
  have a2 := foldl_max_mem L z
  have b1 := foldl_max_le L (L.foldl max z') z (by have := a1 x hx; omega) a1
  have b2 := foldl_max_le L (L.foldl max z) z' (by have := a2 y hy; omega) a2
  omega
theorem head_mem {L : List Int} (h : 0 < L.length) : L.headD 0 ∈ L := by
  cases L with
  | nil => simp at h
  | cons x L => simp
theorem headD_at {L : List Int} (h : 0 < L.length) : L[0]? = some (L.headD 0) := by
  cases L with
  | nil => simp at h
  | cons x L => simp
/-- The greatest, begun at anything that is no greater than all. -/
theorem highOf_from {L : List Int} (h : 0 < L.length) {z : Int} (hz : ∀ x ∈ L, z ≤ x) : L.foldl max z = highOf L :=
  foldl_max_of_mem L z ⟨_, head_mem h, hz _ (head_mem h)⟩ _ ⟨_, head_mem h, Int.le_refl _⟩
theorem low_le_high {L : List Int} (h : 0 < L.length) : lowOf L ≤ highOf L := by
  have h1 := foldl_min_mem L (L.headD 0) _ (head_mem h)
  have h2 := foldl_max_mem L (L.headD 0) _ (head_mem h)
  unfold lowOf highOf
  omega
theorem low_bd {L : List Int} {m M : Int} (h : 0 < L.length) (hb : ∀ x ∈ L, m ≤ x ∧ x ≤ M) : m ≤ lowOf L ∧ lowOf L ≤ M := by
  have h0 := hb _ (head_mem h)
  have h1 := foldl_min_ge L m (L.headD 0) h0.1 (fun x hx => (hb x hx).1)
  have h2 := foldl_min_le L (L.headD 0)
  unfold lowOf
  omega
theorem high_bd {L : List Int} {m M : Int} (h : 0 < L.length) (hb : ∀ x ∈ L, m ≤ x ∧ x ≤ M) : m ≤ highOf L ∧ highOf L ≤ M := by
  have h0 := hb _ (head_mem h)
  have h1 := foldl_max_le L M (L.headD 0) h0.2 (fun x hx => (hb x hx).2)
  have h2 := foldl_max_ge L (L.headD 0)
  unfold highOf
  omega

/-- The first index of the first k whose number is the least. -/
def argmin (T : List Int) : Nat → Nat
  | 0 => 0
  | k + 1 => if T.getD k 0 < T.getD (argmin T k) 0 then k else argmin T k
theorem argmin_lt (T : List Int) : ∀ k, 0 < T.length → k ≤ T.length → argmin T k < T.length
  | 0, h, _ => h
  | k + 1, h, hk => by
    unfold argmin
    split
    · omega
    · exact argmin_lt T k h (by omega)
theorem argmin_step {T : List Int} {k : Nat} {t u : Int} (ht : T[k]? = some t) (hu : T[argmin T k]? = some u) : argmin T (k + 1) = if t < u then k else argmin T k := by
  have e1 : T.getD k 0 = t := by simp [List.getD, ht]
  have e2 : T.getD (argmin T k) 0 = u := by simp [List.getD, hu]
  rw [argmin, e1, e2]

/-- The indices of the first k whose thing is fine. -/
def pick {α : Type} (p : Nat → α → Bool) (L : List α) (k : Nat) : List Int := ((L.take k).zipIdx.filter fun x => p x.2 x.1).map fun x => (x.2 : Int)
theorem pick_zero {α : Type} (p : Nat → α → Bool) (L : List α) : pick p L 0 = [] := by simp [pick]
theorem pick_succ {α : Type} {p : Nat → α → Bool} {L : List α} {k : Nat} {a : α} (h : L[k]? = some a) : pick p L (k + 1) = if p k a then pick p L k ++ [(k : Int)] else pick p L k := by
  have hl : k < L.length := (List.getElem?_eq_some_iff.1 h).1
  unfold pick
  rw [List.take_add_one, h, List.zipIdx_append, List.filter_append, List.map_append]
  have : (L.take k).length = k := by simp; omega
  cases hp : p k a <;> simp [this, hp]
theorem pick_len {α : Type} (p : Nat → α → Bool) (L : List α) (k : Nat) : (pick p L k).length ≤ L.length := by
  unfold pick
  rw [List.length_map]
  refine Nat.le_trans (List.length_filter_le _ _) ?_
  simp
  omega
theorem pick_more {α : Type} (p : Nat → α → Bool) {L : List α} {k : Nat} (h : L.length ≤ k) : pick p L k = pick p L L.length := by
  unfold pick
  rw [List.take_of_length_le h, List.take_length]
theorem ite_min {a s : Int} : (if s < a then s else a) = min a s := by split <;> omega
theorem ite_max {a s : Int} : (if a < s then s else a) = max a s := by split <;> omega
theorem ret_pair {a b : Int} {c d : Bool} (h : a = b) (h' : c = d) : Ending.returned (.tuple #[.int .i64 a, .bool c]) = .returned (.tuple #[.int .i64 b, .bool d]) := by rw [h, h']
theorem ret_ints {a b c d : Int} (h : a = b) (h' : c = d) : Ending.returned (.tuple #[.int .i64 a, .int .i64 c]) = .returned (.tuple #[.int .i64 b, .int .i64 d]) := by rw [h, h']
theorem ret_three {a b c d : Int} {x y : Bool} (h : a = b) (h' : c = d) (h'' : x = y) : Ending.returned (.tuple #[.int .i64 a, .int .i64 c, .bool x]) = .returned (.tuple #[.int .i64 b, .int .i64 d, .bool y]) := by rw [h, h', h'']
end Go.Proofs.YthehcjfljjfnmaaGreat


/-
  Plain mathematics on charts, absent performers, covers.
-/
namespace Go.Proofs.YthehcjfljjfnmaaGreat
open Go.RowKit

/-- Does a list hold a thing? -/
def has {α : Type} [BEq α] (L : List α) (a : α) : Bool := L.contains a
theorem has_cons {α : Type} [BEq α] (x : α) (L : List α) (a : α) : has (x :: L) a = (a == x || has L a) := by unfold has; rw [List.contains_cons]
theorem has_iff {α : Type} [BEq α] [LawfulBEq α] {L : List α} {a : α} : has L a = true ↔ a ∈ L := by unfold has; exact List.contains_iff_mem
theorem has_no {α : Type} [BEq α] [LawfulBEq α] {L : List α} {a : α} : has L a = false ↔ a ∉ L := by rw [← has_iff, Bool.not_eq_true]

/-- Strictly increasing numbers in 0..hi, the first k. -/
def riseTo (l : List Int) (hi : Int) : Nat → Bool
  | 0 => true
  | k + 1 => riseTo l hi k && (inR (l.getD k 0) 0 hi && (decide (k = 0) || decide (l.getD (k - 1) 0 < l.getD k 0)))
def riseOk (l : List Int) (hi : Int) : Bool := riseTo l hi l.length
theorem riseTo_mono {l : List Int} {hi : Int} {k : Nat} (h : riseTo l hi k = false) : ∀ j, k ≤ j → riseTo l hi j = false
  | 0, hj => by have : k = 0 := by omega
                subst this; exact h
  | j + 1, hj => by
    by_cases e : k = j + 1
    · subst e; exact h
    · rw [riseTo, riseTo_mono h j (by omega)]; rfl
theorem riseTo_no {l : List Int} {hi x : Int} {k : Nat} (hx : l[k]? = some x) (h : inR x 0 hi = false ∨ ∃ y, 0 < k ∧ l[k - 1]? = some y ∧ x ≤ y) : riseOk l hi = false := by
  have hk : k < l.length := (List.getElem?_eq_some_iff.1 hx).1
  refine riseTo_mono (k := k + 1) ?_ _ (by omega)
  have e1 : l.getD k 0 = x := by simp [List.getD, hx]
  rw [riseTo, e1]
  rcases h with h | ⟨y, h0, hy, hxy⟩
  · simp [h]
  · have e2 : l.getD (k - 1) 0 = y := by simp [List.getD, hy]
    have e3 : decide (y < x) = false := decide_eq_false (by omega)
    have e4 : decide (k = 0) = false := decide_eq_false (by omega)
    rw [e2, e3, e4]; simp
theorem riseTo_yes {l : List Int} {hi x : Int} {k : Nat} (H : riseTo l hi k = true) (hx : l[k]? = some x) (h : inR x 0 hi = true) (h2 : k = 0 ∨ ∃ y, l[k - 1]? = some y ∧ y < x) : riseTo l hi (k + 1) = true := by
  have e1 : l.getD k 0 = x := by simp [List.getD, hx]
  rw [riseTo, e1, H, h]
  rcases h2 with h2 | ⟨y, hy, hxy⟩
  · simp [h2]
  · have e2 : l.getD (k - 1) 0 = y := by simp [List.getD, hy]
    rw [e2, decide_eq_true hxy]; simp
theorem riseTo_at {l : List Int} {hi x : Int} : ∀ {n k : Nat}, riseTo l hi n = true → k < n → l[k]? = some x → inR x 0 hi = true
  | n + 1, k, h, hk, hx => by
    rw [riseTo, Bool.and_eq_true, Bool.and_eq_true] at h
    by_cases e : k = n
    · subst e
      have e1 : l.getD k 0 = x := by simp [List.getD, hx]
      rw [e1] at h
      exact h.2.1
    · exact riseTo_at h.1 (by omega) hx
theorem rise_at {l : List Int} {hi x : Int} {k : Nat} (h : riseOk l hi = true) (hx : l[k]? = some x) : 0 ≤ x ∧ x ≤ hi :=
  inR_iff.1 (riseTo_at h (List.getElem?_eq_some_iff.1 hx).1 hx)
theorem rise_mem {l : List Int} {hi x : Int} (h : riseOk l hi = true) (hx : x ∈ l) : 0 ≤ x ∧ x ≤ hi := by
  obtain ⟨k, hk⟩ := List.getElem?_of_mem hx
  exact rise_at h hk
theorem rise_grow {l : List Int} {hi x : Int} : ∀ {n k : Nat}, riseTo l hi n = true → k < n → l[k]? = some x → (k : Int) ≤ x
  | n + 1, k, h, hk, hx => by
    have h0 := h
    rw [riseTo, Bool.and_eq_true, Bool.and_eq_true] at h
    by_cases e : k = n
    · subst e
      have e1 : l.getD k 0 = x := by simp [List.getD, hx]
      rw [e1] at h
      have hl : k < l.length := (List.getElem?_eq_some_iff.1 hx).1
      rcases Nat.eq_zero_or_pos k with hz | hz
      · subst hz
        have := inR_iff.1 h.2.1
        omega
      · have hb : k - 1 < l.length := by omega
        have hy : l[k - 1]? = some (l[k - 1]) := List.getElem?_eq_getElem hb
        have ih := rise_grow (k := k - 1) h.1 (by omega) hy
        have e2 : l.getD (k - 1) 0 = l[k - 1] := by simp [List.getD, hy]
        rw [e2] at h
        have := h.2.2
        simp only [Bool.or_eq_true, decide_eq_true_eq] at this
        omega
    · exact rise_grow h.1 (by omega) hx
/-- Such a list has at most hi + 1 numbers. -/
theorem rise_len {l : List Int} {hi : Int} (h : riseOk l hi = true) (h0 : -1 ≤ hi) : (l.length : Int) ≤ hi + 1 := by
  rcases Nat.eq_zero_or_pos l.length with hz | hz
  · omega
  · have hb : l.length - 1 < l.length := by omega
    have hy : l[l.length - 1]? = some (l[l.length - 1]) := List.getElem?_eq_getElem hb
    have h1 := rise_grow (k := l.length - 1) h (by omega) hy
    have h2 := rise_at h hy
    omega

/-- A chart: spots, no two alike, 1 to 12. -/
def chTo (L : List Sp) : Nat → Bool
  | 0 => true
  | k + 1 => chTo L k && (isSp (L.getD k ⟨0, 0⟩) && !has (L.take k) (L.getD k ⟨0, 0⟩))
def chOk (L : List Sp) : Bool := inR L.length 1 12 && chTo L L.length
theorem chTo_mono {L : List Sp} {k : Nat} (h : chTo L k = false) : ∀ j, k ≤ j → chTo L j = false
  | 0, hj => by have : k = 0 := by omega
                subst this; exact h
  | j + 1, hj => by
    by_cases e : k = j + 1
    · subst e; exact h
    · rw [chTo, chTo_mono h j (by omega)]; rfl
theorem chTo_no {L : List Sp} {k : Nat} {s : Sp} (hs : L[k]? = some s) (h : isSp s = false ∨ has (L.take k) s = true) : chTo L L.length = false := by
  have hk : k < L.length := (List.getElem?_eq_some_iff.1 hs).1
  refine chTo_mono (k := k + 1) ?_ _ (by omega)
  have e1 : L.getD k ⟨0, 0⟩ = s := by simp [List.getD, hs]
  rw [chTo, e1]
  rcases h with h | h
  · simp [h]
  · rw [h]; simp
theorem chTo_yes {L : List Sp} {k : Nat} {s : Sp} (H : chTo L k = true) (hs : L[k]? = some s) (h : isSp s = true) (h2 : has (L.take k) s = false) : chTo L (k + 1) = true := by
  have e1 : L.getD k ⟨0, 0⟩ = s := by simp [List.getD, hs]
  rw [chTo, e1, H, h, h2]; rfl
theorem chTo_at {L : List Sp} {s : Sp} : ∀ {n k : Nat}, chTo L n = true → k < n → L[k]? = some s → isSp s = true
  | n + 1, k, h, hk, hx => by
    rw [chTo, Bool.and_eq_true, Bool.and_eq_true] at h
    by_cases e : k = n
    · subst e
      have e1 : L.getD k ⟨0, 0⟩ = s := by simp [List.getD, hx]
      rw [e1] at h
      exact h.2.1
    · exact chTo_at h.1 (by omega) hx
theorem chOk_iff {L : List Sp} : chOk L = true ↔ (1 ≤ L.length ∧ L.length ≤ 12) ∧ chTo L L.length = true := by
  unfold chOk
  rw [Bool.and_eq_true, inR_iff]
  constructor
  · rintro ⟨h1, h2⟩; exact ⟨by omega, h2⟩
  · rintro ⟨h1, h2⟩; exact ⟨by omega, h2⟩
theorem ch_at {L : List Sp} {k : Nat} {s : Sp} (h : chOk L = true) (hs : L[k]? = some s) : isSp s = true := chTo_at (chOk_iff.1 h).2 (List.getElem?_eq_some_iff.1 hs).1 hs
theorem ch_all {L : List Sp} (h : chOk L = true) : L.all isSp = true := by
  rw [List.all_eq_true]
  intro s hs
  obtain ⟨k, hk⟩ := List.getElem?_of_mem hs
  exact ch_at h hk

/-- An absence. -/
def abOk (L : List Sp) (a n : List Int) : Bool := (chOk L && riseOk a (L.length - 1)) && riseOk n (L.length - 1)
theorem abOk_iff {L : List Sp} {a n : List Int} : abOk L a n = true ↔ chOk L = true ∧ riseOk a (L.length - 1) = true ∧ riseOk n (L.length - 1) = true := by simp [abOk, and_assoc]

theorem filter_take_succ {α : Type} {L : List α} {p : α → Bool} {k : Nat} {x : α} (h : L[k]? = some x) : (L.take (k + 1)).filter p = if p x then (L.take k).filter p ++ [x] else (L.take k).filter p := by
  rw [List.take_add_one, h, List.filter_append]
  cases hp : p x <;> simp [hp]
def opens (a n : List Int) : List Int := n.filter fun i => has a i
theorem opens_len (a n : List Int) : (opens a n).length ≤ n.length := List.length_filter_le _ _
/-- 0, 1, .. k - 1 -/
def upTo (k : Nat) : List Int := (List.range k).map fun i : Nat => (i : Int)
theorem upTo_succ (k : Nat) : upTo (k + 1) = upTo k ++ [(k : Int)] := by simp [upTo, List.range_succ]
theorem upTo_len (k : Nat) : (upTo k).length = k := by simp [upTo]
def spares (m : Nat) (a n : List Int) : List Int := (upTo m).filter fun i => !has a i && !has n i
theorem spares_len (m : Nat) (a n : List Int) : (spares m a n).length ≤ m := by
  have := List.length_filter_le (fun i : Int => !has a i && !has n i) (upTo m)
  rw [upTo_len] at this
  exact this
theorem spares_succ (m : Nat) (a n : List Int) : spares (m + 1) a n = if !has a (m : Int) && !has n (m : Int) then spares m a n ++ [(m : Int)] else spares m a n := by
  unfold spares
  rw [upTo_succ, List.filter_append]
  cases h : (!has a (m : Int) && !has n (m : Int)) <;> simp only [List.filter_cons, h, List.filter_nil] <;> simp
theorem spares_mem {m : Nat} {a n : List Int} {x : Int} (h : x ∈ spares m a n) : 0 ≤ x ∧ x < m := by
  unfold spares upTo at h
  have h1 := (List.mem_filter.1 h).1
  simp only [List.mem_map, List.mem_range] at h1
  obtain ⟨i, hi, rfl⟩ := h1
  omega
theorem opens_mem {a n : List Int} {x : Int} (h : x ∈ opens a n) : x ∈ n ∧ has a x = true := by
  unfold opens at h
  exact ⟨(List.mem_filter.1 h).1, (List.mem_filter.1 h).2⟩

/-- A cover: the first k movers. -/
def covTo (sp mv : List Int) : Nat → Bool
  | 0 => true
  | k + 1 => covTo sp mv k && (has sp (mv.getD k 0) && !has (mv.take k) (mv.getD k 0))
def covOk (m : Nat) (a n mv : List Int) : Bool := covTo (spares m a n) mv mv.length && decide (mv.length = (opens a n).length)
theorem covTo_mono {sp mv : List Int} {k : Nat} (h : covTo sp mv k = false) : ∀ j, k ≤ j → covTo sp mv j = false
  | 0, hj => by have : k = 0 := by omega
                subst this; exact h
  | j + 1, hj => by
    by_cases e : k = j + 1
    · subst e; exact h
    · rw [covTo, covTo_mono h j (by omega)]; rfl
theorem covTo_no {sp mv : List Int} {k : Nat} {x : Int} (hx : mv[k]? = some x) (h : has sp x = false ∨ has (mv.take k) x = true) : covTo sp mv mv.length = false := by
  have hk : k < mv.length := (List.getElem?_eq_some_iff.1 hx).1
  refine covTo_mono (k := k + 1) ?_ _ (by omega)
  have e1 : mv.getD k 0 = x := by simp [List.getD, hx]
  rw [covTo, e1]
  rcases h with h | h
  · rw [h]; simp
  · rw [h]; simp
theorem covTo_yes {sp mv : List Int} {k : Nat} {x : Int} (H : covTo sp mv k = true) (hx : mv[k]? = some x) (h : has sp x = true) (h2 : has (mv.take k) x = false) : covTo sp mv (k + 1) = true := by
  have e1 : mv.getD k 0 = x := by simp [List.getD, hx]
  rw [covTo, e1, H, h, h2]; rfl
theorem covTo_at {sp mv : List Int} {x : Int} : ∀ {n k : Nat}, covTo sp mv n = true → k < n → mv[k]? = some x → has sp x = true ∧ has (mv.take k) x = false
  | n + 1, k, h, hk, hx => by
    rw [covTo, Bool.and_eq_true, Bool.and_eq_true] at h
    by_cases e : k = n
    · subst e
      have e1 : mv.getD k 0 = x := by simp [List.getD, hx]
      rw [e1] at h
      exact ⟨h.2.1, by simpa using h.2.2⟩
    · exact covTo_at h.1 (by omega) hx
theorem covOk_iff {m : Nat} {a n mv : List Int} : covOk m a n mv = true ↔ covTo (spares m a n) mv mv.length = true ∧ mv.length = (opens a n).length := by simp [covOk]
end Go.Proofs.YthehcjfljjfnmaaGreat


/-
  Bits of machine integers as bits of natural numbers; the bits of a list's numbers.
-/
namespace Go.Proofs.YthehcjfljjfnmaaGreat
open Go.RowKit

theorem ofInt_nat {a : Nat} (ha : a < 4611686018427387904) : (BitVec.ofInt 64 (a : Int)).toNat = a := by
  rw [BitVec.ofInt_natCast, BitVec.toNat_ofNat]
  exact Nat.mod_eq_of_lt (by omega)
theorem and_i64 {a b : Nat} (ha : a < 4611686018427387904) (hb : b < 4611686018427387904) : bits .and .i64 (a : Int) (b : Int) = ((a &&& b : Nat) : Int) := by
  have hx : a &&& b < 2 ^ 62 := Nat.and_lt_two_pow _ (by omega)
  show IntKind.i64.wrap ((BitVec.ofInt 64 (a : Int) &&& BitVec.ofInt 64 (b : Int)).toNat : Int) = _
  rw [BitVec.toNat_and, ofInt_nat ha, ofInt_nat hb]
  exact IntWalk.i64_in _ (by omega)
theorem or_i64 {a b : Nat} (ha : a < 4611686018427387904) (hb : b < 4611686018427387904) : bits .or .i64 (a : Int) (b : Int) = ((a ||| b : Nat) : Int) := by
  have hx : a ||| b < 2 ^ 62 := Nat.or_lt_two_pow (by omega) (by omega)
  show IntKind.i64.wrap ((BitVec.ofInt 64 (a : Int) ||| BitVec.ofInt 64 (b : Int)).toNat : Int) = _
  rw [BitVec.toNat_or, ofInt_nat ha, ofInt_nat hb]
  exact IntWalk.i64_in _ (by omega)
theorem xor_i64 {a b : Nat} (ha : a < 4611686018427387904) (hb : b < 4611686018427387904) : bits .xor .i64 (a : Int) (b : Int) = ((a ^^^ b : Nat) : Int) := by
  have hx : a ^^^ b < 2 ^ 62 := Nat.xor_lt_two_pow (by omega) (by omega)
  show IntKind.i64.wrap ((BitVec.ofInt 64 (a : Int) ^^^ BitVec.ofInt 64 (b : Int)).toNat : Int) = _
  rw [BitVec.toNat_xor, ofInt_nat ha, ofInt_nat hb]
  exact IntWalk.i64_in _ (by omega)
theorem wrap_nat {P : Nat} (h : P ≤ 1099511627776) : wrap64 (P : Int) = (P : Int) := IntWalk.wrap64_in _ ⟨by omega, by omega⟩
theorem pow_cast (x : Nat) : ((2 : Int) ^ x) = ((2 ^ x : Nat) : Int) := by rw [Int.natCast_pow]; rfl
theorem pow_le {x : Nat} (h : x ≤ 40) : 2 ^ x ≤ 1099511627776 := Nat.pow_le_pow_right (by omega) h
/-- (U >> x) & 1. -/
theorem bit_at {U x : Nat} (hU : U < 4611686018427387904) : bits .and .i64 ((U : Int) / 2 ^ x) 1 = if U.testBit x then 1 else 0 := by
  have h1 : U / 2 ^ x ≤ U := Nat.div_le_self _ _
  have h2 := and_i64 (a := U / 2 ^ x) (b := 1) (by omega) (by omega)
  rw [pow_cast, ← Int.natCast_ediv]
  refine h2.trans ?_
  rw [Nat.and_one_is_mod, Nat.testBit_eq_decide_div_mod_eq]
  by_cases h : U / 2 ^ x % 2 = 1
  · simp [h]
  · have h3 : U / 2 ^ x % 2 = 0 := by omega
    simp [h3]
theorem bit_yes {U x : Nat} (hU : U < 4611686018427387904) (h : U.testBit x = true) : bits .and .i64 ((U : Int) / 2 ^ x) 1 = 1 := by rw [bit_at hU, h]; rfl
theorem bit_no {U x : Nat} (hU : U < 4611686018427387904) (h : U.testBit x = false) : bits .and .i64 ((U : Int) / 2 ^ x) 1 = 0 := by rw [bit_at hU, h]; rfl
/-- U | 1 << x. -/
theorem bit_or {U x : Nat} (hU : U < 4611686018427387904) (hx : x ≤ 40) : bits .or .i64 (U : Int) (wrap64 (2 ^ x)) = ((U ||| 2 ^ x : Nat) : Int) := by
  have h1 := pow_le hx
  have h2 : wrap64 ((2 : Int) ^ x) = ((2 ^ x : Nat) : Int) := by
    rw [pow_cast]
    exact wrap_nat (by omega)
  rw [h2]
  exact or_i64 hU (by omega)
/-- U ^ 1 << x. -/
theorem bit_xor {U x : Nat} (hU : U < 4611686018427387904) (hx : x ≤ 40) : bits .xor .i64 (U : Int) (wrap64 (2 ^ x)) = ((U ^^^ 2 ^ x : Nat) : Int) := by
  have h1 := pow_le hx
  have h2 : wrap64 ((2 : Int) ^ x) = ((2 ^ x : Nat) : Int) := by
    rw [pow_cast]
    exact wrap_nat (by omega)
  rw [h2]
  exact xor_i64 hU (by omega)
theorem or_test (U x j : Nat) : (U ||| 2 ^ x).testBit j = (U.testBit j || decide (x = j)) := by rw [Nat.testBit_or, Nat.testBit_two_pow]
theorem xor_test (U x j : Nat) : (U ^^^ 2 ^ x).testBit j = (U.testBit j ^^ decide (x = j)) := by rw [Nat.testBit_xor, Nat.testBit_two_pow]
theorem or_lt {U x n : Nat} (hU : U < 2 ^ n) (hx : x < n) : U ||| 2 ^ x < 2 ^ n := Nat.or_lt_two_pow hU (Nat.pow_lt_pow_right (by omega) hx)

/-- The bits of a list's numbers. -/
def mask : List Int → Nat
  | [] => 0
  | x :: l => mask l ||| 2 ^ x.toNat
theorem mask_test : ∀ {l : List Int} (_ : ∀ x ∈ l, 0 ≤ x) (j : Nat), (mask l).testBit j = has l (j : Int)
  | [], _, j => by simp [mask, has]
  | x :: l, h, j => by
    have h0 := h x (by simp)
    rw [mask, or_test, mask_test (fun y hy => h y (by simp [hy])) j, has_cons]
    have : decide (x.toNat = j) = ((j : Int) == x) := by
      rw [Bool.eq_iff_iff]
      simp
      omega
    rw [this, Bool.or_comm]
end Go.Proofs.YthehcjfljjfnmaaGreat


/-
  Plain mathematics: two tables of least sums (over the sets of columns that are left, and over those that are taken) say the same.
-/
namespace Go.Proofs.YthehcjfljjfnmaaGreat
open Go.RowKit

def pop : Nat → Nat → Nat
  | 0, _ => 0
  | n + 1, s => pop n s + (if s.testBit n then 1 else 0)
/-- The least of the values at the columns of a set. -/
def mnT (g : Nat → Int) (s : Nat) : Nat → Int
  | 0 => 1000000000
  | k + 1 => if s.testBit k then min (mnT g s k) (g k) else mnT g s k
/-- The least of the values at the columns that are free. -/
def mnB (g : Nat → Int) (t : Nat) : Nat → Int
  | 0 => 1099511627776
  | k + 1 => if t.testBit k then mnB g t k else min (mnB g t k) (g k)
def tab (c : Nat → Nat → Int) (n : Nat) : Nat → Nat → Int
  | 0, _ => 0
  | f + 1, s => mnT (fun k => c (n - (f + 1)) k + tab c n f (s ^^^ 2 ^ k)) s n
def bst (c : Nat → Nat → Int) (n m : Nat) : Nat → Nat → Int
  | 0, _ => 0
  | r + 1, t => mnB (fun k => c (m - (r + 1)) k + bst c n m r (t ||| 2 ^ k)) t n
/-- Costs of rows that stand for columns that stay. -/
def pad (c : Nat → Nat → Int) (m : Nat) (i k : Nat) : Int := if i < m then c i k else 0
def comp (n t : Nat) : Nat := (2 ^ n - 1) ^^^ t

theorem tb_pow (i k : Nat) : (2 ^ i).testBit k = decide (i = k) := Nat.testBit_two_pow
theorem comp_tb {n t k : Nat} (h : k < n) : (comp n t).testBit k = !t.testBit k := by
  simp [comp, Nat.testBit_two_pow_sub_one, h]
theorem pop_le : ∀ (n s : Nat), pop n s ≤ n
  | 0, _ => Nat.le_refl _
  | n + 1, s => by
    have := pop_le n s
    rw [pop]; split <;> omega
theorem pop_xor {s k : Nat} (hk : s.testBit k = true) : ∀ n, pop n (s ^^^ 2 ^ k) + (if k < n then 1 else 0) = pop n s
  | 0 => by simp [pop]
  | n + 1 => by
    have ih := pop_xor hk n
    rw [pop, pop, Nat.testBit_xor, tb_pow]
    by_cases h : k = n
    · subst h
      rw [hk]
      simp at ih ⊢
      omega
    · simp only [h, decide_false, Bool.xor_false]
      by_cases h2 : k < n
      · rw [if_pos h2] at ih
        rw [if_pos (show k < n + 1 by omega)]
        omega
      · rw [if_neg h2] at ih
        rw [if_neg (show ¬ k < n + 1 by omega)]
        omega
theorem pop_or {t k : Nat} (hk : t.testBit k = false) : ∀ n, pop n (t ||| 2 ^ k) = pop n t + (if k < n then 1 else 0)
  | 0 => by simp [pop]
  | n + 1 => by
    have ih := pop_or hk n
    rw [pop, pop, Nat.testBit_or, tb_pow]
    by_cases h : k = n
    · subst h
      rw [hk]
      simp at ih ⊢
      omega
    · simp only [h, decide_false, Bool.or_false]
      by_cases h2 : k < n
      · rw [if_pos h2] at ih
        rw [if_pos (show k < n + 1 by omega)]
        omega
      · rw [if_neg h2] at ih
        rw [if_neg (show ¬ k < n + 1 by omega)]
        omega
theorem pop_comp (t : Nat) : ∀ n N, n ≤ N → pop n (comp N t) + pop n t = n
  | 0, _, _ => rfl
  | n + 1, N, h => by
    have ih := pop_comp t n N (by omega)
    rw [pop, pop, comp_tb (by omega)]
    cases t.testBit n <;> simp <;> omega
theorem comp_or {n t k : Nat} (hk : t.testBit k = false) : comp n t ^^^ 2 ^ k = comp n (t ||| 2 ^ k) := by
  apply Nat.eq_of_testBit_eq
  intro i
  simp only [comp, Nat.testBit_xor, Nat.testBit_or, tb_pow]
  by_cases h : k = i
  · subst h; simp [hk]
  · simp [h]
theorem pop_lt_free {t : Nat} : ∀ n, pop n t < n → ∃ k, k < n ∧ t.testBit k = false
  | 0, h => by omega
  | n + 1, h => by
    rw [pop] at h
    cases hb : t.testBit n
    · exact ⟨n, by omega, hb⟩
    · rw [hb] at h
      simp at h
      obtain ⟨k, h1, h2⟩ := pop_lt_free n h
      exact ⟨k, by omega, h2⟩
theorem mnB_le {g : Nat → Int} {t : Nat} : ∀ n, (mnB g t n ≤ 1099511627776) ∧ ∀ k, k < n → t.testBit k = false → mnB g t n ≤ g k
  | 0 => ⟨Int.le_refl _, fun k h => by omega⟩
  | n + 1 => by
    obtain ⟨h1, h2⟩ := mnB_le n (g := g) (t := t)
    rw [mnB]
    split
    · rename_i hb
      refine ⟨h1, fun k hk hf => ?_⟩
      by_cases e : k = n
      · subst e; rw [hb] at hf; cases hf
      · exact h2 k (by omega) hf
    · refine ⟨by omega, fun k hk hf => ?_⟩
      by_cases e : k = n
      · subst e; omega
      · have := h2 k (by omega) hf; omega
theorem mnB_at {g : Nat → Int} {t : Nat} : ∀ n, mnB g t n = 1099511627776 ∨ ∃ k, k < n ∧ t.testBit k = false ∧ g k = mnB g t n
  | 0 => .inl rfl
  | n + 1 => by
    rw [mnB]
    split
    · rcases mnB_at n (g := g) (t := t) with h | ⟨k, h1, h2, h3⟩
      · exact .inl h
      · exact .inr ⟨k, by omega, h2, h3⟩
    · rename_i hb
      by_cases h5 : mnB g t n ≤ g n
      · rw [Int.min_eq_left h5]
        rcases mnB_at n (g := g) (t := t) with h | ⟨k, h1, h2, h3⟩
        · exact .inl h
        · exact .inr ⟨k, by omega, h2, h3⟩
      · rw [Int.min_eq_right (by omega)]
        exact .inr ⟨n, by omega, by simpa using hb, rfl⟩
theorem mnT_eq {g g' : Nat → Int} {s t N : Nat} (hst : ∀ k, k < N → s.testBit k = !t.testBit k) (hg : ∀ k, k < N → t.testBit k = false → g k = g' k) (hc : ∀ k, k < N → t.testBit k = false → g k ≤ 1000000000) : ∀ n, n ≤ N → (mnT g s n ≤ 1000000000 ∧ mnT g s n = min 1000000000 (mnB g' t n))
  | 0, _ => ⟨Int.le_refl _, by show (1000000000 : Int) = min 1000000000 1099511627776; omega⟩
  | n + 1, h => by
    obtain ⟨h1, h2⟩ := mnT_eq hst hg hc n (by omega)
    rw [mnT, mnB, hst n (by omega)]
    cases hb : t.testBit n
    · simp only [Bool.not_false, if_true, Bool.false_eq_true, if_false]
      have := hc n (by omega) hb
      have := hg n (by omega) hb
      omega
    · simp only [Bool.not_true, Bool.false_eq_true, if_false, if_true]
      exact ⟨h1, h2⟩
/-- Bounds of the table over the taken. -/
theorem bst_bd {c : Nat → Nat → Int} {n m : Nat} (hc : ∀ i k, i < m → k < n → 0 ≤ c i k ∧ c i k ≤ 2100000) : ∀ r t, r ≤ m → 0 ≤ bst c n m r t ∧ bst c n m r t ≤ 1099511627776
  | 0, _, _ => ⟨Int.le_refl _, by show (0 : Int) ≤ _; omega⟩
  | r + 1, t, hr => by
    refine ⟨?_, (mnB_le n).1⟩
    rcases mnB_at n (g := fun k => c (m - (r + 1)) k + bst c n m r (t ||| 2 ^ k)) (t := t) with h | ⟨k, h1, h2, h3⟩
    · rw [bst, h]; omega
    · rw [bst, ← h3]
      have := (hc (m - (r + 1)) k (by omega) h1).1
      have := (bst_bd hc r (t ||| 2 ^ k) (by omega)).1
      show 0 ≤ _ + _
      omega
theorem bst_small {c : Nat → Nat → Int} {n m : Nat} (hc : ∀ i k, i < m → k < n → 0 ≤ c i k ∧ c i k ≤ 2100000) : ∀ r t, r ≤ m → pop n t + r ≤ n → bst c n m r t ≤ 2100000 * r
  | 0, _, _, _ => by show (0 : Int) ≤ _; omega
  | r + 1, t, hr, hp => by
    obtain ⟨k, h1, h2⟩ := pop_lt_free n (t := t) (by omega)
    have h3 := (mnB_le n (g := fun k => c (m - (r + 1)) k + bst c n m r (t ||| 2 ^ k)) (t := t)).2 k h1 h2
    have h4 := (hc (m - (r + 1)) k (by omega) h1).2
    have h5 := bst_small hc r (t ||| 2 ^ k) (by omega) (by rw [pop_or h2, if_pos h1]; omega)
    rw [bst]
    refine Int.le_trans h3 ?_
    show _ + _ ≤ _
    omega
theorem tab_zero {c : Nat → Nat → Int} {n m : Nat} : ∀ f s, f ≤ n - m → pop n s = f → tab (pad c m) n f s = 0
  | 0, _, _, _ => rfl
  | f + 1, s, hf, hp => by
    have key : ∀ k, s.testBit k = true → k < n → pad c m (n - (f + 1)) k + tab (pad c m) n f (s ^^^ 2 ^ k) = 0 := by
      intro k hk hkn
      have h1 := pop_xor hk n
      rw [if_pos hkn] at h1
      rw [tab_zero f _ (by omega) (by omega), pad, if_neg (by omega)]
      rfl
    have all : ∀ j, j ≤ n → (mnT (fun k => pad c m (n - (f + 1)) k + tab (pad c m) n f (s ^^^ 2 ^ k)) s j = if 0 < pop j s then 0 else 1000000000) := by
      intro j
      induction j with
      | zero => intro _; rfl
      | succ j ih =>
        intro hj
        rw [mnT, pop, ih (by omega)]
        cases hb : s.testBit j
        · simp
        · have := key j hb (by omega)
          simp only [this, if_true]
          split <;> simp <;> omega
    rw [tab, all n (Nat.le_refl _), if_pos (by omega)]
/-- Both tables say the same. -/
theorem tab_bst {c : Nat → Nat → Int} {n m : Nat} (hmn : m ≤ n) (hn : n ≤ 12) (hc : ∀ i k, i < m → k < n → 0 ≤ c i k ∧ c i k ≤ 2100000) : ∀ r t, r ≤ m → pop n t = m - r → tab (pad c m) n (n - (m - r)) (comp n t) = bst c n m r t
  | 0, t, _, hp => by
    have := pop_comp t n n (Nat.le_refl _)
    exact tab_zero _ _ (by omega) (by omega)
  | r + 1, t, hr, hp => by
    have e : n - (m - (r + 1)) = (n - (m - r)) + 1 := by omega
    rw [e, tab, bst]
    have e2 : n - (n - (m - r) + 1) = m - (r + 1) := by omega
    rw [e2]
    have h5 := mnT_eq (g := fun k => pad c m (m - (r + 1)) k + tab (pad c m) n (n - (m - r)) (comp n t ^^^ 2 ^ k)) (g' := fun k => c (m - (r + 1)) k + bst c n m r (t ||| 2 ^ k)) (s := comp n t) (t := t) (N := n) (fun k hk => comp_tb hk)
      (fun k hk hf => by
        show pad c m (m - (r + 1)) k + _ = c (m - (r + 1)) k + _
        rw [comp_or hf, tab_bst hmn hn hc r (t ||| 2 ^ k) (by omega) (by rw [pop_or hf, if_pos hk]; omega), pad, if_pos (by omega)])
      (fun k hk hf => by
        show pad c m (m - (r + 1)) k + _ ≤ _
        rw [comp_or hf, tab_bst hmn hn hc r (t ||| 2 ^ k) (by omega) (by rw [pop_or hf, if_pos hk]; omega), pad, if_pos (by omega)]
        have := (hc (m - (r + 1)) k (by omega) hk).2
        have := bst_small hc r (t ||| 2 ^ k) (by omega) (by rw [pop_or hf, if_pos hk]; omega)
        omega) n (Nat.le_refl _)
    rw [h5.2]
    have h6 := bst_small hc (r + 1) t hr (by omega)
    rw [bst] at h6
    omega
end Go.Proofs.YthehcjfljjfnmaaGreat


/-
  Slices in memory as lists: 'Mem w A xs': from address A on the cells xs lie in the world w (nothing is asked where xs is empty).
-/
namespace Go.Proofs.YthehcjfljjfnmaaGreat
open Go.RowKit

@[simp] theorem size_drew_ (w : World) : w.drew.heap.size = w.heap.size := rfl
@[simp] theorem size_drewN_ (w : World) (n : Nat) : (w.drewN n).heap.size = w.heap.size := rfl
@[simp] theorem size_setCell_ (w : World) (a : Addr) (v : Value) : (w.setCell a v).heap.size = w.heap.size := by simp [World.setCell]
theorem Below.next {B : Nat} {a W w' : World} (hq : Below W.heap.size W w') (h : Below B a W) (hB : B ≤ W.heap.size) : Below B a w' := h.trans (hq.mono hB)
theorem Below.drewN {B : Nat} {a w : World} (h : Below B a w) (n : Nat) : Below B a (w.drewN n) := ⟨h.os, h.tape, h.output, h.size, h.block⟩
theorem bel {W w1 : World} (hb : Below W.heap.size W w1) : W.heap.size ≤ w1.heap.size ∧ (∀ b o, b < W.heap.size → w1.cell? ⟨b, o, none⟩ = W.cell? ⟨b, o, none⟩) ∧ (∀ b o, b < W.heap.size → w1.frozen? ⟨b, o, none⟩ = W.frozen? ⟨b, o, none⟩) :=
  ⟨hb.size, fun b o h => hb.cell (p := ⟨b, o, none⟩) h, fun b o h => hb.frozen (p := ⟨b, o, none⟩) h⟩

theorem keep1 {W w' : World} {p : Addr} {v : Value} (hq : Below W.heap.size W w') (h : W.cell? p = some v) : w'.cell? p = some v := (hq.cell (World.block_lt_of_cell? W _ h)).trans h
theorem keep2 {W w' : World} {p1 p2 : Addr} {v1 v2 : Value} (hq : Below W.heap.size W w') (h : W.cell? p1 = some v1 ∧ W.cell? p2 = some v2) : w'.cell? p1 = some v1 ∧ w'.cell? p2 = some v2 :=
  ⟨keep1 hq h.1, keep1 hq h.2⟩
theorem keep4 {W w' : World} {p1 p2 p3 p4 : Addr} {v1 v2 v3 v4 : Value} (hq : Below W.heap.size W w') (h : W.cell? p1 = some v1 ∧ W.cell? p2 = some v2 ∧ W.cell? p3 = some v3 ∧ W.cell? p4 = some v4) : w'.cell? p1 = some v1 ∧ w'.cell? p2 = some v2 ∧ w'.cell? p3 = some v3 ∧ w'.cell? p4 = some v4 :=
  ⟨keep1 hq h.1, keep1 hq h.2.1, keep1 hq h.2.2.1, keep1 hq h.2.2.2⟩

def Mem (w : World) (A : Option Addr) (xs : List Value) : Prop :=
  xs ≠ [] → ∃ b off, A = some ⟨b, off, none⟩ ∧ ∀ j u, xs[j]? = some u → w.cell? ⟨b, off + j, none⟩ = some u

section
variable {w w' : World} {A : Option Addr} {xs : List Value}
theorem Mem.nil (w : World) (A : Option Addr) : Mem w A [] := fun h => absurd rfl h
theorem Mem.at_ {j : Nat} (h : Mem w A xs) (hj : j < xs.length) : ∃ b off, A = some ⟨b, off, none⟩ ∧ ∀ j u, xs[j]? = some u → w.cell? ⟨b, off + j, none⟩ = some u :=
  h (by rintro rfl; simp at hj)
theorem Mem.below (h : Mem w A xs) (hb : Below w.heap.size w w') : Mem w' A xs := fun hne => by
  obtain ⟨b, off, e, hc⟩ := h hne
  refine ⟨b, off, e, fun j u hu => ?_⟩
  have h1 := hc j u hu
  have hlt := World.block_lt_of_cell? w _ h1
  exact (hb.cell (p := ⟨b, off + j, none⟩) hlt).trans h1
theorem Mem.of_own {base : Nat} {e : TypeId} {size n c : Nat} (h : w.ownsRow base e size (.slice A n c) n xs) : Mem w A xs := fun hne => by
  rcases h.2 with ⟨h', hn⟩ | ⟨g, cap, cur, h', _, hg, _, _, _, htake⟩
  · exact absurd (List.eq_nil_of_length_eq_zero (by rw [h.1, hn]; simp)) hne
  · simp only [Value.slice.injEq] at h'
    obtain ⟨rfl, _, rfl⟩ := h'
    refine ⟨g, 0, rfl, fun j u hu => ?_⟩
    have hj : j < n * size := by rw [← h.1]; exact (List.getElem?_eq_some_iff.1 hu).1
    rw [Nat.zero_add, h.cellAt j hj, hu]
end

/-- A list of things as cells, each of as many. -/
theorem flat_get {α : Type} (f : α → List Value) (sz : Nat) (hf : ∀ a, (f a).length = sz) : ∀ (L : List α) (k : Nat) (a : α), L[k]? = some a → ∀ j, j < sz → (L.flatMap f)[k * sz + j]? = (f a)[j]?
  | [], k, a, h, _, _ => by simp at h
  | x :: L, 0, a, h, j, hj => by
    simp at h; subst h
    rw [List.flatMap_cons, Nat.zero_mul, Nat.zero_add, List.getElem?_append_left (by rw [hf]; exact hj)]
  | x :: L, k + 1, a, h, j, hj => by
    have h' : L[k]? = some a := by simpa using h
    rw [List.flatMap_cons, List.getElem?_append_right (by rw [hf, Nat.add_mul]; omega), hf]
    rw [← flat_get f sz hf L k a h' j hj]
    congr 1
    rw [Nat.add_mul]; omega
theorem flat_len {α : Type} (f : α → List Value) (sz : Nat) (hf : ∀ a, (f a).length = sz) : ∀ (L : List α), (L.flatMap f).length = L.length * sz
  | [] => by simp
  | x :: L => by rw [List.flatMap_cons, List.length_append, hf, flat_len f sz hf L, List.length_cons, Nat.add_mul]; omega
theorem Mem.elem {α : Type} {f : α → List Value} {sz : Nat} {w : World} {A : Option Addr} {L : List α} (hf : ∀ a, (f a).length = sz) (h : Mem w A (L.flatMap f)) {k : Nat} {a : α} (hk : L[k]? = some a) (hsz : 0 < sz) :
    ∃ b off, A = some ⟨b, off, none⟩ ∧ ∀ j u, (f a)[j]? = some u → w.cell? ⟨b, off + k * sz + j, none⟩ = some u := by
  have hl : k < L.length := (List.getElem?_eq_some_iff.1 hk).1
  have hlen := flat_len f sz hf L
  have hkk : k * sz < (L.flatMap f).length := by rw [hlen]; exact Nat.mul_lt_mul_of_pos_right hl hsz
  obtain ⟨b, off, e, hc⟩ := h.at_ hkk
  refine ⟨b, off, e, fun j u hu => ?_⟩
  have hj : j < sz := by rw [← hf a]; exact (List.getElem?_eq_some_iff.1 hu).1
  rw [Nat.add_assoc]
  exact hc _ u ((flat_get f sz hf L k a hk j hj).trans hu)

/-- Numbers as cells; spots as cells. -/
def ints (L : List Int) : List Value := L.flatMap fun n => [Value.int .i64 n]
def spots (L : List Sp) : List Value := L.flatMap fun s => [Value.int .i64 s.x, Value.int .i64 s.y]
theorem ints_len (L : List Int) : (ints L).length = L.length := by rw [ints, flat_len _ 1 (fun _ => rfl)]; omega
theorem spots_len (L : List Sp) : (spots L).length = L.length * 2 := flat_len _ 2 (fun _ => rfl) L
theorem ints_snoc (L : List Int) (n : Int) : ints (L ++ [n]) = ints L ++ [Value.int .i64 n] := by simp [ints]
theorem spots_snoc (L : List Sp) (s : Sp) : spots (L ++ [s]) = spots L ++ [Value.int .i64 s.x, Value.int .i64 s.y] := by simp [spots]
theorem Mem.int {w : World} {A : Option Addr} {L : List Int} (h : Mem w A (ints L)) {k : Nat} {n : Int} (hk : L[k]? = some n) :
    ∃ b off, A = some ⟨b, off, none⟩ ∧ w.cell? ⟨b, off + k, none⟩ = some (.int .i64 n) := by
  obtain ⟨b, off, e, hc⟩ := Mem.elem (sz := 1) (fun _ => rfl) h hk (by omega)
  exact ⟨b, off, e, by simpa using hc 0 _ rfl⟩
theorem Mem.spot {w : World} {A : Option Addr} {L : List Sp} (h : Mem w A (spots L)) {k : Nat} {s : Sp} (hk : L[k]? = some s) :
    ∃ b off, A = some ⟨b, off, none⟩ ∧ w.cell? ⟨b, off + k * 2, none⟩ = some (.int .i64 s.x) ∧ w.cell? ⟨b, off + k * 2 + 1, none⟩ = some (.int .i64 s.y) := by
  obtain ⟨b, off, e, hc⟩ := Mem.elem (sz := 2) (fun _ => rfl) h hk (by omega)
  exact ⟨b, off, e, hc 0 _ rfl, hc 1 _ rfl⟩

theorem some_of_lt {α : Type} {L : List α} {k : Nat} (h : k < L.length) : ∃ a, L[k]? = some a := ⟨L[k], List.getElem?_eq_getElem h⟩

/-! ### What the call itself has made -/
section
variable {w w' : World} {base : Nat} {e : TypeId} {size : Nat} {v : Value} {n : Nat} {xs : List Value}
theorem own_below (h : w.ownsRow base e size v n xs) (hb : Below w.heap.size w w') : w'.ownsRow base e size v n xs := by
  refine ⟨h.1, ?_⟩
  rcases h.2 with h2 | ⟨g, cap, cur, hv, hg, hh, r⟩
  · exact Or.inl h2
  · exact Or.inr ⟨g, cap, cur, hv, hg, (hb.block g (Array.getElem?_eq_some_iff.1 hh).1).trans hh, r⟩
theorem own_drew (h : w.ownsRow base e size v n xs) : w.drew.ownsRow base e size v n xs := h
theorem own_lt (h : w.ownsRow base e size v n xs) : ∀ k, v.ownBlock = some k → base ≤ k ∧ k < w.heap.size := h.lt
theorem own_form (h : w.ownsRow base e size v n xs) : ∃ A c, v = .slice A n c := by
  rcases h.2 with ⟨rfl, rfl⟩ | ⟨g, cap, cur, rfl, _⟩
  · exact ⟨none, 0, rfl⟩
  · exact ⟨_, _, rfl⟩
/-- Two rows of which the one began where the heap ended when the other was there already. -/
theorem own_kept {row : Option Nat} (h : w.ownsRow base e size v n xs) (hg : w.grownBy w' row) (hne : ∀ k, row = some k → ∀ j, v.ownBlock = some j → j ≠ k) : w'.ownsRow base e size v n xs := by
  refine h.kept hg ?_
  cases hv : v.ownBlock with
  | none => exact Or.inl rfl
  | some j => exact Or.inr (fun e => hne j e.symm j hv rfl)
end

theorem own_addr {w : World} {base : Nat} {e : TypeId} {size : Nat} {A : Option Addr} {n c : Nat} {xs : List Value} (h : w.ownsRow base e size (.slice A n c) n xs) (hn : 0 < n) : ∃ g, A = some ⟨g, 0, none⟩ ∧ base ≤ g ∧ g < w.heap.size := by
  rcases h.2 with ⟨_, h2⟩ | ⟨g, cap, cur, hv, hg, hh, _⟩
  · omega
  · simp only [Value.slice.injEq] at hv
    obtain ⟨rfl, _, rfl⟩ := hv
    exact ⟨g, rfl, hg, (Array.getElem?_eq_some_iff.1 hh).1⟩
theorem grown_trans {a b c : World} {row : Option Nat} (h : a.grownBy b row) (k : b.grownBy c row) : a.grownBy c row :=
  ⟨k.os.trans h.os, k.tape.trans h.tape, k.output.trans h.output, Nat.le_trans h.size k.size, fun i hi hne => (k.block i (Nat.lt_of_lt_of_le hi h.size) hne).trans (h.block i hi hne)⟩
theorem grown_refl (w : World) (row : Option Nat) : w.grownBy w row := ⟨rfl, rfl, rfl, Nat.le_refl _, fun _ _ _ => rfl⟩
theorem grown_drewN {a w : World} {row : Option Nat} (h : a.grownBy w row) (n : Nat) : a.grownBy (w.drewN n) row := ⟨h.os, h.tape, h.output, h.size, h.block⟩

/-- k, k + 1, .. -/
def run (k : Int) (n : Nat) : List Int := (List.range n).map fun i : Nat => k + (i : Int)
theorem run_len (k : Int) (n : Nat) : (run k n).length = n := by simp [run]
theorem run_at {k : Int} {n i : Nat} (h : i < n) : (run k n)[i]? = some (k + (i : Int)) := by simp [run, h]
def marked (L : List Int) (k : Int) (j : Nat) : List Int := run k j ++ L.drop j
theorem marked_zero (L : List Int) (k : Int) : marked L k 0 = L := by simp [marked, run]
theorem marked_all (L : List Int) (k : Int) {j : Nat} (h : L.length ≤ j) (h2 : j ≤ L.length) : marked L k j = run k L.length := by
  have : j = L.length := by omega
  subst this
  simp [marked]
theorem marked_len (L : List Int) (k : Int) {j : Nat} (h : j ≤ L.length) : (marked L k j).length = L.length := by simp [marked, run]; omega
theorem marked_set {L : List Int} {k : Int} {j : Nat} (h : j < L.length) : (marked L k j).set j (k + (j : Int)) = marked L k (j + 1) := by
  unfold marked
  rw [List.set_append_right _ _ (by rw [run_len]; omega), run_len, Nat.sub_self, List.drop_eq_getElem_cons h, List.set_cons_zero]
  simp [run, List.range_succ]
/-- The same for spots: two numbers each. -/
def runS (k : Int) (n : Nat) : List Sp := (List.range n).map fun i : Nat => ⟨k + 2 * (i : Int), k + 2 * (i : Int) + 1⟩
theorem runS_len (k : Int) (n : Nat) : (runS k n).length = n := by simp [runS]
theorem runS_at {k : Int} {n i : Nat} (h : i < n) : (runS k n)[i]? = some ⟨k + 2 * (i : Int), k + 2 * (i : Int) + 1⟩ := by simp [runS, h]
def markedS (L : List Sp) (k : Int) (j : Nat) : List Sp := runS k j ++ L.drop j
theorem markedS_zero (L : List Sp) (k : Int) : markedS L k 0 = L := by simp [markedS, runS]
theorem markedS_all (L : List Sp) (k : Int) {j : Nat} (h : L.length ≤ j) (h2 : j ≤ L.length) : markedS L k j = runS k L.length := by
  have : j = L.length := by omega
  subst this
  simp [markedS]
theorem markedS_len (L : List Sp) (k : Int) {j : Nat} (h : j ≤ L.length) : (markedS L k j).length = L.length := by simp [markedS, runS]; omega
theorem markedS_set {L : List Sp} {k : Int} {j : Nat} (h : j < L.length) : (markedS L k j).set j ⟨k + 2 * (j : Int), k + 2 * (j : Int) + 1⟩ = markedS L k (j + 1) := by
  unfold markedS
  rw [List.set_append_right _ _ (by rw [runS_len]; omega), runS_len, Nat.sub_self, List.drop_eq_getElem_cons h, List.set_cons_zero]
  simp [runS, List.range_succ]

/-- 'out = append(out, x)': one thing more on a row of the call's own; x has just been laid in a block of its own. -/
theorem wpList_append_one {P : Program} (w : World) {ops : Array Oper} {rest : List Oper} {o : Oper} {a : Act} {Q : Exit → Act → World → Prop} (hgd : o.guard = none) (s x : Operand) (t : TypeId)
    (ho : o.op = .call { callee := .builtin .append, args := #[s, x], argTypes := #[t, t] })
    (base : Nat) (e : TypeId) (i : TypeInfo) (z : Value) (size bytes : Nat) (ht : P.underlying t = some (.slice e)) (hi : P.info? e = some i) (hz : i.zero = some z)
    (hsize : i.size = size) (hby : i.bytes = bytes) (hzs : z.cells.size = size) (hsz : 0 < size)
    (v : Value) (n : Nat) (xs : List Value) (hs : a.eval s = v) (hown : w.ownsRow base e size v n xs)
    (news : Array Value) (te : TypeId) (c : Nat) (hx : a.eval x = .slice (some ⟨w.heap.size, 0, none⟩) 1 c) (hl : news.size = size) (h1 : news.toList.all Value.oneCell' = true)
    (h63 : n ≤ 1073741824) (hbytes : bytes ≤ 65536) (hbase : base ≤ w.heap.size)
    (h : ∀ v' w', w'.ownsRow base e size v' (n + 1) (xs ++ news.toList) → Below base w w' → wpList P ops Q rest (a.put o.dst v') w') : wpList P ops Q (o :: rest) a (w.alloc (.cells news te)) := by
  have hb2 : (n + 1) * bytes ≤ 140737488355328 := Nat.le_trans (Nat.mul_le_mul (Nat.succ_le_succ h63) hbytes) (by decide)
  refine wpList_append_own _ hgd s x t ho base e i z size bytes ht hi hz hsize hby hzs hsz v n xs hs (hown.alloc _) ⟨w.heap.size, 0, none⟩ 1 c news.toList hx (by simpa using hl) ?_ ?_ (by unfold maxLen; omega) hb2 (by simp; omega) ?_
  · intro j u hu
    rw [Addr.add_lit, Nat.zero_add, cell_of_row _ w.heap.size j news te (0, 0) (heap_alloc_new w _)]
    simpa using hu
  · intro u hu
    exact List.all_eq_true.1 h1 u hu
  · intro v' w' ho' hg _
    refine h v' w' ho' (((Below.refl base w).alloc hbase _).grown hg (by simp; omega) (fun k hk => ?_))
    exact (hown.lt k hk).1

/-- A parameter's box: the first block of the call's own. -/
theorem boxed {w wr : World} {o : Obj} (hb : Below (w.heap.size + 1) (w.alloc o) wr) : Below w.heap.size w wr ∧ w.heap.size < wr.heap.size :=
  ⟨((Below.refl _ _).alloc (Nat.le_refl _) _).trans (hb.mono (Nat.le_succ _)), by have := hb.size; simp at this; omega⟩
theorem boxed_cell {w wr : World} {cs : Array Value} {t : TypeId} (hb : Below (w.heap.size + 1) (w.alloc (.cells cs t)) wr) (j : Nat) : wr.cell? ⟨w.heap.size, j, none⟩ = cs[j]? := by
  rw [hb.cell (p := ⟨w.heap.size, j, none⟩) (Nat.lt_succ_self _), cell_of_row _ w.heap.size j cs t (0, 0) (heap_alloc_new w _)]
theorem own_base {w : World} {base base' : Nat} {e : TypeId} {size : Nat} {v : Value} {n : Nat} {xs : List Value} (h : w.ownsRow base e size v n xs) (hb : base' ≤ base) : w.ownsRow base' e size v n xs := by
  refine ⟨h.1, ?_⟩
  rcases h.2 with h2 | ⟨g, cap, cur, hv, hg, r⟩
  · exact Or.inl h2
  · exact Or.inr ⟨g, cap, cur, hv, Nat.le_trans hb hg, r⟩
theorem own_empty {w : World} {base g : Nat} {xs : List Value} (e : TypeId) (size : Nat) (hg : g = w.heap.size) (hb : base ≤ g) (hx : xs = []) : (w.alloc (.cells #[] e)).ownsRow base e size (.slice (some ⟨g, 0, none⟩) 0 0) 0 xs := by
  subst hg hx
  exact World.ownsRow_lit w #[] 0 hb (Nat.zero_le _) (by simp)

theorem below_grown {B : Nat} {a w w' : World} {row : Option Nat} (h : Below B a w) (hg : w.grownBy w' row) (hB : B ≤ w.heap.size) (hr : ∀ k, row = some k → B ≤ k) : Below B a w' := h.grown hg hB hr
theorem keep2g {W w' : World} {p1 p2 : Addr} {v1 v2 : Value} {row : Option Nat} (hg : W.grownBy w' row) (h : W.cell? p1 = some v1 ∧ W.cell? p2 = some v2) (hr : ∀ k, row = some k → p1.block < k ∧ p2.block < k) : w'.cell? p1 = some v1 ∧ w'.cell? p2 = some v2 :=
  ⟨hg.cell h.1 (fun e => by have := (hr p1.block e.symm).1; omega), hg.cell h.2 (fun e => by have := (hr p2.block e.symm).2; omega)⟩
theorem grown_below {w w' : World} (hg : w.grownBy w' none) : Below w.heap.size w w' := ⟨hg.os, hg.tape, hg.output, hg.size, fun k hk => hg.block k hk (fun e => by cases e)⟩
theorem mem_grown {w w' : World} {A : Option Addr} {xs : List Value} {row : Option Nat} (h : Mem w A xs) (hg : w.grownBy w' row) (hne : ∀ b off, A = some ⟨b, off, none⟩ → some b ≠ row) : Mem w' A xs := fun hx => by
  obtain ⟨b, off, ea, hc⟩ := h hx
  exact ⟨b, off, ea, fun j u hu => hg.cell (hc j u hu) (hne b off ea)⟩

/-- A row that make has laid: as many zero things. -/
theorem made_flat {α : Type} (f : α → List Value) (sz : Nat) (z : α) (hsz : 0 < sz) (hf : ∀ a, (f a).length = sz) (n : Nat) : (madeCells (f z).toArray (n * sz)).toList = (List.replicate n z).flatMap f := by
  apply List.ext_getElem?
  intro j
  by_cases hj : j < n * sz
  · have hk : j / sz < n := (Nat.div_lt_iff_lt_mul hsz).2 hj
    have hm : j % sz < sz := Nat.mod_lt _ hsz
    have e1 : j / sz * sz + j % sz = j := by rw [Nat.mul_comm]; exact Nat.div_add_mod j sz
    have h2 := flat_get f sz hf (List.replicate n z) (j / sz) z (by simp [hk]) (j % sz) hm
    rw [e1] at h2
    rw [h2]
    have hz : j % (f z).length < (f z).length := by rw [hf]; exact hm
    simp [madeCells, hj, hf, hm]
  · rw [List.getElem?_eq_none (by simp [size_madeCells]; omega), List.getElem?_eq_none (by rw [flat_len f sz hf]; simp; omega)]

/-- The first k of L, the rest zero. -/
def part {α : Type} (L : List α) (z : α) (k : Nat) : List α := L.take k ++ List.replicate (L.length - k) z
theorem part_len {α : Type} (L : List α) (z : α) {k : Nat} (h : k ≤ L.length) : (part L z k).length = L.length := by simp [part]; omega
theorem part_zero {α : Type} (L : List α) (z : α) : part L z 0 = List.replicate L.length z := by simp [part]
theorem part_all {α : Type} (L : List α) (z : α) {k : Nat} (h : L.length ≤ k) : part L z k = L := by simp [part, List.take_of_length_le h, Nat.sub_eq_zero_of_le h]
theorem part_set {α : Type} {L : List α} {z a : α} {k : Nat} (hk : L[k]? = some a) : (part L z k).set k a = part L z (k + 1) := by
  have hl : k < L.length := (List.getElem?_eq_some_iff.1 hk).1
  unfold part
  rw [List.set_append_right _ _ (by simp; omega)]
  have e1 : k - (L.take k).length = 0 := by simp; omega
  have e2 : L.length - k = (L.length - (k + 1)) + 1 := by omega
  rw [e1, e2, List.replicate_succ, List.set_cons_zero, List.take_add_one, hk]
  simp
theorem ints_set : ∀ (L : List Int) (k : Nat) (n : Int), ints (L.set k n) = (ints L).set k (.int .i64 n)
  | [], _, _ => by simp [ints]
  | x :: L, 0, n => by simp [ints]
  | x :: L, k + 1, n => by
    have := ints_set L k n
    simp only [ints, List.set_cons_succ, List.flatMap_cons, List.singleton_append] at *
    rw [this]
theorem spots_set : ∀ (L : List Sp) (k : Nat) (s : Sp), spots (L.set k s) = ((spots L).set (k * 2) (.int .i64 s.x)).set (k * 2 + 1) (.int .i64 s.y)
  | [], _, _ => by simp [spots]
  | x :: L, 0, n => by simp [spots]
  | x :: L, k + 1, n => by
    have := spots_set L k n
    have e1 : (k + 1) * 2 = k * 2 + 1 + 1 := by omega
    simp only [spots, List.set_cons_succ, List.flatMap_cons, List.cons_append, List.nil_append, e1] at *
    rw [this]
end Go.Proofs.YthehcjfljjfnmaaGreat


/-
  Contracts of the functions on lists of spots.
-/
namespace Go.Proofs.YthehcjfljjfnmaaGreat
open Go.RowKit

end Go.Proofs.YthehcjfljjfnmaaGreat


/-
  Contracts of the laws' own small functions on lists of numbers: copied, compared, marked, held.
-/
namespace Go.Proofs.YthehcjfljjfnmaaGreat
open Go.RowKit

theorem info_int : (Tryz.prog.info? 3).map (fun i => (i.zero, i.size, i.bytes)) = some (some (.int .i64 0), 1, 8) := by kernel_rfl





end Go.Proofs.YthehcjfljjfnmaaGreat


/-
  Contracts of the laws' own small functions on lists of spots: copied, compared, marked.
-/
namespace Go.Proofs.YthehcjfljjfnmaaGreat
open Go.RowKit Go.Sort

theorem info_spot : (Tryz.prog.info? 24).map (fun i => (i.zero, i.size, i.bytes)) = some (some (.agg #[.int .i64 0, .int .i64 0]), 2, 16) := by kernel_rfl



end Go.Proofs.YthehcjfljjfnmaaGreat


/-
  What calls hand back: numbers, spots in memory of their own, with a bool and perhaps a sum.
-/
namespace Go.Proofs.YthehcjfljjfnmaaGreat
open Go.RowKit

/-- A call hands back numbers in memory of its own, and a bool. -/
def RetInts (w : World) (V : List Int) (ok : Bool) (e : Ending) (w' : World) : Prop :=
  ∃ A' c', e = .returned (.tuple #[.slice A' V.length c', .bool ok]) ∧ w'.ownsRow w.heap.size 3 1 (.slice A' V.length c') V.length (ints V) ∧ Below w.heap.size w w'
theorem RetInts.none_ {w w' : World} {V : List Int} {ok : Bool} (hV : V = []) (hok : ok = false) (hb : Below w.heap.size w w') : RetInts w V ok (.returned (.tuple #[.slice none 0 0, .bool false])) w' := by
  subst hV hok
  exact ⟨none, 0, rfl, World.ownsRow_nil _ _ _ _, hb⟩
theorem RetInts.some_ {w w' : World} {V V' : List Int} {ok : Bool} {v : Value} {n base : Nat} (hok : ok = true) (hV : V = V') (ho : w'.ownsRow base 3 1 v n (ints V')) (hn : n = V'.length) (hbase : w.heap.size ≤ base) (hb : Below w.heap.size w w') : RetInts w V ok (.returned (.tuple #[v, .bool true])) w' := by
  subst hok hV hn
  obtain ⟨A', c', rfl⟩ := own_form ho
  exact ⟨A', c', rfl, own_base ho hbase, hb⟩
/-- The same with a number between. -/
def RetInts3 (w : World) (V : List Int) (s : Int) (ok : Bool) (e : Ending) (w' : World) : Prop :=
  ∃ A' c', e = .returned (.tuple #[.slice A' V.length c', .int .i64 s, .bool ok]) ∧ w'.ownsRow w.heap.size 3 1 (.slice A' V.length c') V.length (ints V) ∧ Below w.heap.size w w'
theorem RetInts3.none_ {w w' : World} {V : List Int} {s : Int} {ok b : Bool} (hV : V = []) (hs : s = 0) (hok : ok = b) (hb : Below w.heap.size w w') : RetInts3 w V s ok (.returned (.tuple #[.slice none 0 0, .int .i64 0, .bool b])) w' := by
  subst hV hok hs
  exact ⟨none, 0, rfl, World.ownsRow_nil _ _ _ _, hb⟩
theorem RetInts3.some_ {w w' : World} {V V' : List Int} {s s' : Int} {ok : Bool} {v : Value} {n base : Nat} (hok : ok = true) (hV : V = V') (hs : s = s') (ho : w'.ownsRow base 3 1 v n (ints V')) (hn : n = V'.length) (hbase : w.heap.size ≤ base) (hb : Below w.heap.size w w') : RetInts3 w V s ok (.returned (.tuple #[v, .int .i64 s', .bool true])) w' := by
  subst hok hV hn hs
  obtain ⟨A', c', rfl⟩ := own_form ho
  exact ⟨A', c', rfl, own_base ho hbase, hb⟩
def RetSpots (w : World) (V : List Sp) (ok : Bool) (e : Ending) (w' : World) : Prop :=
  ∃ A' c', e = .returned (.tuple #[.slice A' V.length c', .bool ok]) ∧ w'.ownsRow w.heap.size 24 2 (.slice A' V.length c') V.length (spots V) ∧ Below w.heap.size w w'
theorem RetSpots.none_ {w w' : World} {V : List Sp} {ok : Bool} (hV : V = []) (hok : ok = false) (hb : Below w.heap.size w w') : RetSpots w V ok (.returned (.tuple #[.slice none 0 0, .bool false])) w' := by
  subst hV hok
  exact ⟨none, 0, rfl, World.ownsRow_nil _ _ _ _, hb⟩
theorem RetSpots.some_ {w w' : World} {V V' : List Sp} {ok : Bool} {v : Value} {n base : Nat} (hok : ok = true) (hV : V = V') (ho : w'.ownsRow base 24 2 v n (spots V')) (hn : n = V'.length) (hbase : w.heap.size ≤ base) (hb : Below w.heap.size w w') : RetSpots w V ok (.returned (.tuple #[v, .bool true])) w' := by
  subst hok hV hn
  obtain ⟨A', c', rfl⟩ := own_form ho
  exact ⟨A', c', rfl, own_base ho hbase, hb⟩
end Go.Proofs.YthehcjfljjfnmaaGreat


/-
  Blocks of the call's own that are read and written while another row grows by append.
-/
namespace Go.Proofs.YthehcjfljjfnmaaGreat
open Go.RowKit

/-- A block of cells that may be written. -/
def Blk (w : World) (g : Nat) (cs : Array Value) (t : TypeId) : Prop := w.heap[g]? = some (.cells cs t (0, 0))
theorem Blk.cell {w : World} {g : Nat} {cs : Array Value} {t : TypeId} (h : Blk w g cs t) (j : Nat) : w.cell? ⟨g, j, none⟩ = cs[j]? := cell_of_row _ g j cs t (0, 0) h
theorem Blk.frozen {w : World} {g : Nat} {cs : Array Value} {t : TypeId} (h : Blk w g cs t) (j : Nat) : w.frozen? ⟨g, j, none⟩ = false := frozen_of_row _ g j cs t h
theorem Blk.lt {w : World} {g : Nat} {cs : Array Value} {t : TypeId} (h : Blk w g cs t) : g < w.heap.size := by
  rcases Nat.lt_or_ge g w.heap.size with h' | h'
  · exact h'
  · unfold Blk at h
    simp [Array.getElem?_eq_none h'] at h
theorem Blk.below {w w' : World} {B g : Nat} {cs : Array Value} {t : TypeId} (h : Blk w g cs t) (hb : Below B w w') (hg : g < B) : Blk w' g cs t := (hb.block g hg).trans h
theorem Blk.new (w : World) (cs : Array Value) (t : TypeId) : Blk (w.alloc (.cells cs t)) w.heap.size cs t := heap_alloc_new w _
theorem Blk.alloc {w : World} {g : Nat} {cs : Array Value} {t : TypeId} (h : Blk w g cs t) (o : Obj) : Blk (w.alloc o) g cs t := h.below ((Below.refl _ _).alloc (Nat.le_refl _) o) h.lt
theorem Blk.drew {w : World} {g : Nat} {cs : Array Value} {t : TypeId} (h : Blk w g cs t) : Blk w.drew g cs t := h
theorem Blk.set {w : World} {g : Nat} {cs : Array Value} {t : TypeId} (h : Blk w g cs t) (j : Nat) (v : Value) : Blk (w.setCell ⟨g, j, none⟩ v) g (cs.setIfInBounds j v) t := heap_setCell_same w g j cs t v h
theorem Blk.other {w : World} {g g' j : Nat} {cs : Array Value} {t : TypeId} (h : Blk w g cs t) (hne : g ≠ g') (v : Value) : Blk (w.setCell ⟨g', j, none⟩ v) g cs t := (heap_setCell_other w ⟨g', j, none⟩ g v hne).trans h
theorem Blk.set2 {w : World} {g : Nat} {x y : Value} {t : TypeId} (h : Blk w g #[x, y] t) (u v : Value) : Blk ((w.setCell ⟨g, 0, none⟩ u).setCell ⟨g, 1, none⟩ v) g #[u, v] t := (h.set 0 u).set 1 v

/-- 'out = append(out, x)': other blocks that are there stay as they are, and none of them becomes the row's. -/
theorem wpList_append_keep {P : Program} (w : World) {ops : Array Oper} {rest : List Oper} {o : Oper} {a : Act} {Q : Exit → Act → World → Prop} (hgd : o.guard = none) (s x : Operand) (t : TypeId)
    (ho : o.op = .call { callee := .builtin .append, args := #[s, x], argTypes := #[t, t] })
    (base : Nat) (e : TypeId) (i : TypeInfo) (z : Value) (size bytes : Nat) (ht : P.underlying t = some (.slice e)) (hi : P.info? e = some i) (hz : i.zero = some z)
    (hsize : i.size = size) (hby : i.bytes = bytes) (hzs : z.cells.size = size) (hsz : 0 < size)
    (v : Value) (n : Nat) (xs : List Value) (hs : a.eval s = v) (hown : w.ownsRow base e size v n xs)
    (news : Array Value) (te : TypeId) (c : Nat) (hx : a.eval x = .slice (some ⟨w.heap.size, 0, none⟩) 1 c) (hl : news.size = size) (h1 : news.toList.all Value.oneCell' = true)
    (h63 : n ≤ 1073741824) (hbytes : bytes ≤ 65536) (hbase : base ≤ w.heap.size)
    (h : ∀ v' w', w'.ownsRow base e size v' (n + 1) (xs ++ news.toList) → Below base w w' → (∀ k, k < w.heap.size → v.ownBlock ≠ some k → w'.heap[k]? = w.heap[k]? ∧ v'.ownBlock ≠ some k) → w.heap.size < w'.heap.size → wpList P ops Q rest (a.put o.dst v') w') : wpList P ops Q (o :: rest) a (w.alloc (.cells news te)) := by
  have hb2 : (n + 1) * bytes ≤ 140737488355328 := Nat.le_trans (Nat.mul_le_mul (Nat.succ_le_succ h63) hbytes) (by decide)
  refine wpList_append_own_at _ hgd s x t ho base e i z size bytes ht hi hz hsize hby hzs hsz v n xs hs (hown.alloc _) ⟨w.heap.size, 0, none⟩ 1 c news.toList hx (by simpa using hl) ?_ ?_ (by unfold maxLen; omega) hb2 (by simp; omega) ?_
  · intro j u hu
    rw [Addr.add_lit, Nat.zero_add, cell_of_row _ w.heap.size j news te (0, 0) (heap_alloc_new w _)]
    simpa using hu
  · intro u hu
    exact List.all_eq_true.1 h1 u hu
  · intro v' w' ho' hg _ hat
    refine h v' w' ho' (((Below.refl base w).alloc hbase _).grown hg (by simp; omega) (fun k hk => ?_)) (fun k hk hne => ⟨?_, ?_⟩) (by have := hg.size; simp at this; omega)
    · exact (hown.lt k hk).1
    · rw [hg.block k (by simp; omega) (fun e => hne e.symm)]
      exact ((Below.refl w.heap.size w).alloc (Nat.le_refl _) _).block k hk
    · rcases hat with hat | hat
      · rw [hat]; exact hne
      · rw [hat]
        intro e
        have := Option.some.inj e
        simp at this
        omega
end Go.Proofs.YthehcjfljjfnmaaGreat


/-
  Appending to a row of the call's own while another row is read.
-/
namespace Go.Proofs.YthehcjfljjfnmaaGreat
open Go.RowKit

/-- The cells xs lie at A, in a block that is there and is not v's. -/
structure Far (w : World) (v : Value) (A : Option Addr) (xs : List Value) : Prop where
  mem : Mem w A xs
  lt : ∀ b o, A = some ⟨b, o, none⟩ → b < w.heap.size
  ne : ∀ j b o, v.ownBlock = some j → A = some ⟨b, o, none⟩ → b ≠ j

theorem Far.below {w w' : World} {v : Value} {A : Option Addr} {xs : List Value} (h : Far w v A xs) (hb : Below w.heap.size w w') : Far w' v A xs :=
  ⟨h.mem.below hb, fun b o e => Nat.lt_of_lt_of_le (h.lt b o e) hb.size, h.ne⟩
/-- A row of the call's own that was made behind v's block. -/
theorem Far.of_own {w : World} {v : Value} {A : Option Addr} {xs : List Value} {base : Nat} {e : TypeId} {size n c : Nat} (h : w.ownsRow base e size (.slice A n c) n xs) (hv : ∀ j, v.ownBlock = some j → j < base) : Far w v A xs := by
  have hk : ∀ b o, A = some ⟨b, o, none⟩ → base ≤ b ∧ b < w.heap.size := fun b o e => by
    subst e
    exact h.lt b rfl
  exact ⟨Mem.of_own h, fun b o e => (hk b o e).2, fun j b o hj e => by have := hv j hj; have := (hk b o e).1; omega⟩
/-- A row that was there ahead of v's block. -/
theorem Far.of_old {w : World} {v : Value} {A : Option Addr} {xs : List Value} {B : Nat} (h : Mem w A xs) (hlt : ∀ b o, A = some ⟨b, o, none⟩ → b < B) (hB : B ≤ w.heap.size) (hv : ∀ j, v.ownBlock = some j → B ≤ j) : Far w v A xs :=
  ⟨h, fun b o e => Nat.lt_of_lt_of_le (hlt b o e) hB, fun j b o hj e => by have := hv j hj; have := hlt b o e; omega⟩

theorem wpList_append_far {P : Program} (w : World) {ops : Array Oper} {rest : List Oper} {o : Oper} {a : Act} {Q : Exit → Act → World → Prop} (hgd : o.guard = none) (s x : Operand) (t : TypeId)
    (ho : o.op = .call { callee := .builtin .append, args := #[s, x], argTypes := #[t, t] })
    (base : Nat) (e : TypeId) (i : TypeInfo) (z : Value) (size bytes : Nat) (ht : P.underlying t = some (.slice e)) (hi : P.info? e = some i) (hz : i.zero = some z)
    (hsize : i.size = size) (hby : i.bytes = bytes) (hzs : z.cells.size = size) (hsz : 0 < size)
    (v : Value) (n : Nat) (xs : List Value) (hs : a.eval s = v) (hown : w.ownsRow base e size v n xs)
    (news : Array Value) (te : TypeId) (c : Nat) (hx : a.eval x = .slice (some ⟨w.heap.size, 0, none⟩) 1 c) (hl : news.size = size) (h1 : news.toList.all Value.oneCell' = true)
    (h63 : n ≤ 1073741824) (hbytes : bytes ≤ 65536) (hbase : base ≤ w.heap.size)
    (h : ∀ v' w', w'.ownsRow base e size v' (n + 1) (xs ++ news.toList) → Below base w w' → (∀ A ys, Far w v A ys → Far w' v' A ys) → wpList P ops Q rest (a.put o.dst v') w') : wpList P ops Q (o :: rest) a (w.alloc (.cells news te)) := by
  have hb2 : (n + 1) * bytes ≤ 140737488355328 := Nat.le_trans (Nat.mul_le_mul (Nat.succ_le_succ h63) hbytes) (by decide)
  refine wpList_append_own_at _ hgd s x t ho base e i z size bytes ht hi hz hsize hby hzs hsz v n xs hs (hown.alloc _) ⟨w.heap.size, 0, none⟩ 1 c news.toList hx (by simpa using hl) ?_ ?_ (by unfold maxLen; omega) hb2 (by simp; omega) ?_
  · intro j u hu
    rw [Addr.add_lit, Nat.zero_add, cell_of_row _ w.heap.size j news te (0, 0) (heap_alloc_new w _)]
    simpa using hu
  · intro u hu
    exact List.all_eq_true.1 h1 u hu
  · intro v' w' ho' hg _ hat
    refine h v' w' ho' (((Below.refl base w).alloc hbase _).grown hg (by simp; omega) (fun k hk => ?_)) (fun A ys hf => ?_)
    · exact (hown.lt k hk).1
    · have h2 := hf.below (w' := w.alloc (.cells news te)) ((Below.refl _ _).alloc (Nat.le_refl _) _)
      refine ⟨mem_grown h2.mem hg (fun b off hA heq => h2.ne b b off heq.symm hA rfl), fun b off e => Nat.lt_of_lt_of_le (h2.lt b off e) hg.size, fun j b off hj hA => ?_⟩
      rcases hat with hat | hat
      · rw [hat] at hj; exact h2.ne j b off hj hA
      · rw [hat] at hj
        have h3 := hf.lt b off hA
        have h4 : (w.alloc (.cells news te)).heap.size = j := Option.some.inj hj
        simp at h4
        omega

/-- The same inside a region that draws its order. -/
theorem step_append_far {P : Program} (w : World) {ops : Array Oper} {o : Oper} {a : Act} {K : Act → World → Prop} {Q : Exit → Act → World → Prop} {E : Prop} (hgd : o.guard = none) (s x : Operand) (t : TypeId)
    (ho : o.op = .call { callee := .builtin .append, args := #[s, x], argTypes := #[t, t] })
    (base : Nat) (e : TypeId) (i : TypeInfo) (z : Value) (size bytes : Nat) (ht : P.underlying t = some (.slice e)) (hi : P.info? e = some i) (hz : i.zero = some z)
    (hsize : i.size = size) (hby : i.bytes = bytes) (hzs : z.cells.size = size) (hsz : 0 < size)
    (v : Value) (n : Nat) (xs : List Value) (hs : a.eval s = v) (hown : w.ownsRow base e size v n xs)
    (news : Array Value) (te : TypeId) (c : Nat) (hx : a.eval x = .slice (some ⟨w.heap.size, 0, none⟩) 1 c) (hl : news.size = size) (h1 : news.toList.all Value.oneCell' = true)
    (h63 : n ≤ 1073741824) (hbytes : bytes ≤ 65536) (hbase : base ≤ w.heap.size)
    (h : ∀ v' w', w'.ownsRow base e size v' (n + 1) (xs ++ news.toList) → Below base w w' → (∀ A ys, Far w v A ys → Far w' v' A ys) → K (a.put o.dst v') w') :
    if Region.wanted o (yielded ops a.tmps) = true then Oper.wp P o a (w.alloc (.cells news te)) K Q else E := by
  have hw : Region.wanted o (yielded ops a.tmps) = true := by simp [Region.wanted, hgd]
  rw [if_pos hw]
  have hb2 : (n + 1) * bytes ≤ 140737488355328 := Nat.le_trans (Nat.mul_le_mul (Nat.succ_le_succ h63) hbytes) (by decide)
  obtain ⟨v', w', hrun, ho', hg, _, hat⟩ := run_append_own_at (P := P) (w.alloc (.cells news te)) base t o.type e i z size bytes ht hi hz hsize hby hzs hsz v n xs (hown.alloc _) ⟨w.heap.size, 0, none⟩ 1 c news.toList (by simpa using hl)
    (by
      intro j u hu
      rw [Addr.add_lit, Nat.zero_add, cell_of_row _ w.heap.size j news te (0, 0) (heap_alloc_new w _)]
      simpa using hu)
    (fun u hu => List.all_eq_true.1 h1 u hu) (by unfold maxLen; omega) hb2 (by simp; omega)
  unfold Oper.wp execOp
  simp only [ho, resolve, invoke, builtin, Sem.run_bind, Sem.run_pure, Result.andThen_ok, List.map_toArray, List.map_cons, List.map_nil, hs, hx, hrun]
  refine h v' w' ho' (((Below.refl base w).alloc hbase _).grown hg (by simp; omega) (fun k hk => ?_)) (fun A ys hf => ?_)
  · exact (hown.lt k hk).1
  · have h2 := hf.below (w' := w.alloc (.cells news te)) ((Below.refl _ _).alloc (Nat.le_refl _) _)
    refine ⟨mem_grown h2.mem hg (fun b off hA heq => h2.ne b b off heq.symm hA rfl), fun b off e => Nat.lt_of_lt_of_le (h2.lt b off e) hg.size, fun j b off hj hA => ?_⟩
    rcases hat with hat | hat
    · rw [hat] at hj; exact h2.ne j b off hj hA
    · rw [hat] at hj
      have h3 := hf.lt b off hA
      have h4 : (w.alloc (.cells news te)).heap.size = j := Option.some.inj hj
      simp at h4
      omega

/-- One cell in a block that is not v's. -/
theorem far_cell {w w' : World} {v v' : Value} (hfar : ∀ A ys, Far w v A ys → Far w' v' A ys) {b o : Nat} {u : Value} (h : w.cell? ⟨b, o, none⟩ = some u) (hne : ∀ j, v.ownBlock = some j → b ≠ j) : w'.cell? ⟨b, o, none⟩ = some u := by
  have h1 : Far w v (some ⟨b, o, none⟩) [u] := by
    refine ⟨fun _ => ⟨b, o, rfl, fun j x hx => ?_⟩, fun b' o' e => ?_, fun j b' o' hj e => ?_⟩
    · match j, hx with
      | 0, hx => simp at hx; subst hx; exact h
    · simp only [Option.some.injEq, Addr.mk.injEq, and_true] at e
      obtain ⟨rfl, rfl⟩ := e
      exact World.block_lt_of_cell? w _ h
    · simp only [Option.some.injEq, Addr.mk.injEq, and_true] at e
      obtain ⟨rfl, rfl⟩ := e
      exact hne j hj
  obtain ⟨b', o', e, hc⟩ := (hfar _ _ h1).mem (by simp)
  simp only [Option.some.injEq, Addr.mk.injEq, and_true] at e
  obtain ⟨rfl, rfl⟩ := e
  exact hc 0 u rfl
theorem keep5 {W w' : World} {p1 p2 p3 p4 p5 : Addr} {v1 v2 v3 v4 v5 : Value} (hq : Below W.heap.size W w') (h : W.cell? p1 = some v1 ∧ W.cell? p2 = some v2 ∧ W.cell? p3 = some v3 ∧ W.cell? p4 = some v4 ∧ W.cell? p5 = some v5) : w'.cell? p1 = some v1 ∧ w'.cell? p2 = some v2 ∧ w'.cell? p3 = some v3 ∧ w'.cell? p4 = some v4 ∧ w'.cell? p5 = some v5 :=
  ⟨keep1 hq h.1, keep1 hq h.2.1, keep1 hq h.2.2.1, keep1 hq h.2.2.2.1, keep1 hq h.2.2.2.2⟩
theorem keep5f {W w' : World} {v v' : Value} (hfar : ∀ A ys, Far W v A ys → Far w' v' A ys) {b1 b2 b3 o1 o2 o3 o4 o5 : Nat} {v1 v2 v3 v4 v5 : Value} (h : W.cell? ⟨b1, o1, none⟩ = some v1 ∧ W.cell? ⟨b2, o2, none⟩ = some v2 ∧ W.cell? ⟨b2, o3, none⟩ = some v3 ∧ W.cell? ⟨b3, o4, none⟩ = some v4 ∧ W.cell? ⟨b3, o5, none⟩ = some v5)
    (hv : ∀ j, v.ownBlock = some j → b1 ≠ j ∧ b2 ≠ j ∧ b3 ≠ j) : w'.cell? ⟨b1, o1, none⟩ = some v1 ∧ w'.cell? ⟨b2, o2, none⟩ = some v2 ∧ w'.cell? ⟨b2, o3, none⟩ = some v3 ∧ w'.cell? ⟨b3, o4, none⟩ = some v4 ∧ w'.cell? ⟨b3, o5, none⟩ = some v5 :=
  ⟨far_cell hfar h.1 (fun j hj => (hv j hj).1), far_cell hfar h.2.1 (fun j hj => (hv j hj).2.1), far_cell hfar h.2.2.1 (fun j hj => (hv j hj).2.1), far_cell hfar h.2.2.2.1 (fun j hj => (hv j hj).2.2), far_cell hfar h.2.2.2.2 (fun j hj => (hv j hj).2.2)⟩
theorem own_int {w : World} {base : Nat} {e : TypeId} {g n c k : Nat} {M : List Int} {x : Int} (h : w.ownsRow base e 1 (.slice (some ⟨g, 0, none⟩) n c) n (ints M)) (hk : M[k]? = some x) : w.cell? ⟨g, k, none⟩ = some (.int .i64 x) := by
  obtain ⟨b, off, e, hc⟩ := (Mem.of_own h).int hk
  simp only [Option.some.injEq, Addr.mk.injEq, and_true] at e
  obtain ⟨rfl, rfl⟩ := e
  simpa using hc
end Go.Proofs.YthehcjfljjfnmaaGreat


/-
  From a walk to the statement: what an argument that can be read as data looks like in memory; the row's last step for a law that answers true and changes nothing that was there.
-/
namespace Go.Proofs.YthehcjfljjfnmaaGreat
open Go.ChangeShapes Go.WideShapes Go.ChangeAt Go.RowKit Go.Deep

section
variable {H : Type} {enc : TypeId × Value → H} {P : Program}

theorem trodAll_stays (hl : laidOutB P = true) {W W' : World} (hb : Below W.heap.size W W') : ∀ {ts : List TypeId} {vs : List Value} {ds : List (DataW H)} {ps : List MemPlace},
    (∀ t ∈ ts, P.readableRec t = true ∧ t < P.types.size) → DataW.TrodAll enc P W 0 (fun _ => true) true ts vs ds ps → (∀ x ∈ ps, x.block < W.heap.size) →
    DataW.TrodAll enc P W' 0 (fun b => decide (b < W.heap.size)) true ts vs ds ps
  | [], [], [], _, _, h, _ => h
  | t :: _, _ :: _, _ :: _, _, hT, ⟨p, q, h1, h2, e⟩, hs =>
    ⟨p, q, Below.trod hl (hT t (List.mem_cons.2 (Or.inl rfl))).1 (hT t (List.mem_cons.2 (Or.inl rfl))).2 h1 hb (fun x hx => hs x (by rw [e]; exact List.mem_append_left _ hx)),
      trodAll_stays hl hb (fun t ht => hT t (List.mem_cons.2 (Or.inr ht))) h2 (fun x hx => hs x (by rw [e]; exact List.mem_append_right _ hx)), e⟩

/-- The row's last step. -/
theorem law_post {f : Func} {s : ChangeSpec} {tb : TypeId} {W W' : World} {args : Array Value} {ds gs : List (DataW H)} {before : List MemPlace} (hl : laidOutB P = true)
    (hr : f.resultTypes = #[tb]) (htb : P.underlying tb = some .bool) (hts : f.params.toList.all (fun t => P.readableRec t && decide (t < P.types.size)) = true) (hv : s.vars = [])
    (hW : DataW.Whole enc P f.params.toList s.vars false W args.toList ds gs before) (hfn : (s.fn H (ds ++ [])) = { results := [.lit (.bool true)], args := ds }) (hb : Below W.heap.size W W') :
    s.post enc P f false true false false W args (.bool true) W' := by
  have hW' := hW
  obtain ⟨p, q, hA, hV, hp, hfz, hnd⟩ := hW
  rw [hv] at hV
  have hlt : ∀ x ∈ before, x.block < W.heap.size := fun x hx => hW'.lt x hx
  obtain ⟨rfl, rfl⟩ : gs = [] ∧ q = [] := trodVars_none hV
  rw [List.append_nil] at hp
  subst hp
  refine ⟨ds, [], before, [], before, [], hW', ?_, ?_, ?_, hb.frame _, fun h => by cases h⟩
  · rw [hfn, hr]
    exact trodAll_cons_mk (shut_bool htb _) trodAll_mk0
  · rw [hfn]
    refine trodAll_stays hl hb (fun t ht => ?_) hA hlt
    have := List.all_eq_true.1 hts t ht
    simpa using this
  · rw [hfn, hv]
    rfl

/-- Cells of type e read as data only where they are 'f a', a being fine. -/
def Rd {α : Type} (enc : TypeId × Value → H) (P : Program) (w : World) (e : TypeId) (sz : Nat) (f : α → List Value) (ok : α → Prop) : Prop :=
  P.cellsOf e = sz ∧ (∀ a, (f a).length = sz) ∧ ∀ base spare held fuel cs x, DataW.trod enc P w base spare held fuel e cs = some x → ∃ a, cs = f a ∧ ok a

theorem Rd.conv {w : World} {e : TypeId} {α β : Type} {sz : Nat} {f : α → List Value} {ok : α → Prop} (h : Rd enc P w e sz f ok) (g : α → β) {f' : β → List Value} {ok' : β → Prop} (hl : ∀ b, (f' b).length = sz) (hf : ∀ a, f a = f' (g a)) (ho : ∀ a, ok a → ok' (g a)) : Rd enc P w e sz f' ok' :=
  ⟨h.1, hl, fun base spare held fuel cs x hx => by
    obtain ⟨a, h1, h2⟩ := h.2.2 base spare held fuel cs x hx
    exact ⟨g a, h1.trans (hf a), ho a h2⟩⟩

theorem Rd_int {w : World} {e : TypeId} (he : P.underlying e = some (.int .i64)) (hc : P.cellsOf e = 1) : Rd enc P w e 1 (fun n : Int => [Value.int .i64 n]) okInt :=
  ⟨hc, fun _ => rfl, fun _ _ _ _ _ _ h => by
    obtain ⟨n, h1, _, h3⟩ := DataW.trod_int he h
    refine ⟨n, h1, ?_⟩
    have := bounds_i64 h3
    exact ⟨by omega, by omega⟩⟩

theorem field_at {w : World} {base : Nat} {spare : Nat → Bool} {held : Bool} {n : Nat} {fs : Array Field} {xs : List (DataW H × List MemPlace)} {cs : List Value} (hx : xs.length = fs.size)
    (h : ∀ (i : Nat) (f : Field), fs[i]? = some f → DataW.trod enc P w base spare held n f.type ((cs.drop f.offset).take (P.cellsOf f.type)) = xs[i]?) {i : Nat} {f : Field} (hi : fs[i]? = some f)
    {α : Type} {sz : Nat} {g : α → List Value} {ok : α → Prop} (hr : Rd enc P w f.type sz g ok) : ∃ a, (cs.drop f.offset).take sz = g a ∧ ok a := by
  have hl : i < xs.length := by rw [hx]; exact (Array.getElem?_eq_some_iff.1 hi).1
  have h1 := h i f hi
  rw [List.getElem?_eq_getElem hl, hr.1] at h1
  exact hr.2.2 _ _ _ _ _ _ h1

theorem Rd_struct2 {w : World} {t : TypeId} {f0 f1 : Field} (hs : P.underlying t = some (.struct #[f0, f1])) {α β : Type} {s0 s1 : Nat} {g0 : α → List Value} {g1 : β → List Value} {ok0 : α → Prop} {ok1 : β → Prop}
    (hC : P.cellsOf t = s0 + s1) (o0 : f0.offset = 0) (o1 : f1.offset = s0) (h0 : Rd enc P w f0.type s0 g0 ok0) (h1 : Rd enc P w f1.type s1 g1 ok1) :
    Rd enc P w t (s0 + s1) (fun a : α × β => g0 a.1 ++ g1 a.2) (fun a => ok0 a.1 ∧ ok1 a.2) := by
  refine ⟨hC, fun a => by rw [List.length_append, h0.2.1, h1.2.1], fun base spare held fuel cs x h => ?_⟩
  obtain ⟨xs, n, _, _, hlen, hxs, hg⟩ := DataW.trod_struct hs h
  obtain ⟨a, ha, oka⟩ := field_at hxs hg (i := 0) (f := f0) rfl h0
  obtain ⟨b, hb, okb⟩ := field_at hxs hg (i := 1) (f := f1) rfl h1
  refine ⟨(a, b), ?_, oka, okb⟩
  show cs = g0 a ++ g1 b
  rw [← ha, ← hb, o0, o1, List.drop_zero, List.take_of_length_le (l := cs.drop s0) (by rw [List.length_drop, hlen, hC]; omega), List.take_append_drop]

theorem Rd_struct3 {w : World} {t : TypeId} {f0 f1 f2 : Field} (hs : P.underlying t = some (.struct #[f0, f1, f2])) {α β γ : Type} {s0 s1 s2 : Nat} {g0 : α → List Value} {g1 : β → List Value} {g2 : γ → List Value}
    {ok0 : α → Prop} {ok1 : β → Prop} {ok2 : γ → Prop}
    (hC : P.cellsOf t = s0 + s1 + s2) (o0 : f0.offset = 0) (o1 : f1.offset = s0) (o2 : f2.offset = s0 + s1) (h0 : Rd enc P w f0.type s0 g0 ok0) (h1 : Rd enc P w f1.type s1 g1 ok1) (h2 : Rd enc P w f2.type s2 g2 ok2) :
    Rd enc P w t (s0 + s1 + s2) (fun a : α × β × γ => g0 a.1 ++ g1 a.2.1 ++ g2 a.2.2) (fun a => ok0 a.1 ∧ ok1 a.2.1 ∧ ok2 a.2.2) := by
  refine ⟨hC, fun a => by rw [List.length_append, List.length_append, h0.2.1, h1.2.1, h2.2.1], fun base spare held fuel cs x h => ?_⟩
  obtain ⟨xs, n, _, _, hlen, hxs, hg⟩ := DataW.trod_struct hs h
  obtain ⟨a, ha, oka⟩ := field_at hxs hg (i := 0) (f := f0) rfl h0
  obtain ⟨b, hb, okb⟩ := field_at hxs hg (i := 1) (f := f1) rfl h1
  obtain ⟨c, hc, okc⟩ := field_at hxs hg (i := 2) (f := f2) rfl h2
  refine ⟨(a, b, c), ?_, oka, okb, okc⟩
  show cs = g0 a ++ g1 b ++ g2 c
  rw [← ha, ← hb, ← hc, o0, o1, o2, List.drop_zero, List.take_of_length_le (l := cs.drop (s0 + s1)) (by rw [List.length_drop, hlen, hC]; omega)]
  have e1 : cs.drop (s0 + s1) = (cs.drop s0).drop s1 := by rw [List.drop_drop]
  rw [e1, List.append_assoc, List.take_append_drop, List.take_append_drop]

theorem Rd_struct4 {w : World} {t : TypeId} {f0 f1 f2 f3 : Field} (hs : P.underlying t = some (.struct #[f0, f1, f2, f3])) {α β γ δ : Type} {s0 s1 s2 s3 : Nat} {g0 : α → List Value} {g1 : β → List Value} {g2 : γ → List Value} {g3 : δ → List Value}
    {ok0 : α → Prop} {ok1 : β → Prop} {ok2 : γ → Prop} {ok3 : δ → Prop}
    (hC : P.cellsOf t = s0 + s1 + s2 + s3) (o0 : f0.offset = 0) (o1 : f1.offset = s0) (o2 : f2.offset = s0 + s1) (o3 : f3.offset = s0 + s1 + s2) (h0 : Rd enc P w f0.type s0 g0 ok0) (h1 : Rd enc P w f1.type s1 g1 ok1) (h2 : Rd enc P w f2.type s2 g2 ok2) (h3 : Rd enc P w f3.type s3 g3 ok3) :
    Rd enc P w t (s0 + s1 + s2 + s3) (fun a : α × β × γ × δ => g0 a.1 ++ g1 a.2.1 ++ g2 a.2.2.1 ++ g3 a.2.2.2) (fun a => ok0 a.1 ∧ ok1 a.2.1 ∧ ok2 a.2.2.1 ∧ ok3 a.2.2.2) := by
  refine ⟨hC, fun a => by rw [List.length_append, List.length_append, List.length_append, h0.2.1, h1.2.1, h2.2.1, h3.2.1], fun base spare held fuel cs x h => ?_⟩
  obtain ⟨xs, n, _, _, hlen, hxs, hg⟩ := DataW.trod_struct hs h
  obtain ⟨a, ha, oka⟩ := field_at hxs hg (i := 0) (f := f0) rfl h0
  obtain ⟨b, hb, okb⟩ := field_at hxs hg (i := 1) (f := f1) rfl h1
  obtain ⟨c, hc, okc⟩ := field_at hxs hg (i := 2) (f := f2) rfl h2
  obtain ⟨d, hd, okd⟩ := field_at hxs hg (i := 3) (f := f3) rfl h3
  refine ⟨(a, b, c, d), ?_, oka, okb, okc, okd⟩
  show cs = g0 a ++ g1 b ++ g2 c ++ g3 d
  rw [← ha, ← hb, ← hc, ← hd, o0, o1, o2, o3, List.drop_zero, List.take_of_length_le (l := cs.drop (s0 + s1 + s2)) (by rw [List.length_drop, hlen, hC]; omega)]
  have e1 : cs.drop (s0 + s1) = (cs.drop s0).drop s1 := by rw [List.drop_drop]
  have e2 : cs.drop (s0 + s1 + s2) = ((cs.drop s0).drop s1).drop s2 := by rw [List.drop_drop, List.drop_drop]; congr 1; omega
  rw [e1, e2, List.append_assoc, List.append_assoc, List.take_append_drop, List.take_append_drop, List.take_append_drop]

/-- A slice's header: its address, its capacity, what it holds. -/
structure Hdr (α : Type) where
  A : Option Addr
  c : Nat
  L : List α

def okHdr {α : Type} (w : World) (f : α → List Value) (ok : α → Prop) (h : Hdr α) : Prop := Mem w h.A (h.L.flatMap f) ∧ (∀ a ∈ h.L, ok a) ∧ h.L.length ≤ h.c ∧ h.c ≤ maxLen

theorem exists_list {α : Type} (Q : Nat → α → Prop) : ∀ n : Nat, (∀ i, i < n → ∃ a, Q i a) → ∃ L : List α, L.length = n ∧ ∀ i a, L[i]? = some a → Q i a
  | 0, _ => ⟨[], rfl, fun i a h => by simp at h⟩
  | n + 1, h => by
    obtain ⟨L, hl, hq⟩ := exists_list Q n (fun i hi => h i (by omega))
    obtain ⟨a, ha⟩ := h n (by omega)
    refine ⟨L ++ [a], by simp [hl], fun i b hb => ?_⟩
    rcases Nat.lt_or_ge i L.length with h1 | h1
    · rw [List.getElem?_append_left h1] at hb; exact hq i b hb
    · rw [List.getElem?_append_right h1] at hb
      have : i - L.length = 0 := by
        rcases Nat.eq_zero_or_pos (i - L.length) with h2 | h2
        · exact h2
        · rw [List.getElem?_eq_none (by simp; omega)] at hb; cases hb
      rw [this] at hb
      simp at hb
      subst hb
      have : i = n := by omega
      rw [this]; exact ha

theorem Rd_slice {w : World} {t e : TypeId} (ht : P.underlying t = some (.slice e)) (hct : P.cellsOf t = 1) {α : Type} {sz : Nat} {f : α → List Value} {ok : α → Prop} (hsz : 0 < sz) (hr : Rd enc P w e sz f ok) :
    Rd enc P w t 1 (fun h : Hdr α => [Value.slice h.A h.L.length h.c]) (okHdr w f ok) := by
  refine ⟨hct, fun _ => rfl, fun base spare held fuel cs x h => ?_⟩
  rcases open_slice ht h with ⟨rfl, _⟩ | ⟨a, len, cap, m, n, D, Pl, rfl, _, hl, hm, hmm, _, hi⟩
  · exact ⟨⟨none, 0, []⟩, rfl, Mem.nil _ _, fun _ h => by simp at h, Nat.le_refl _, Nat.zero_le _⟩
  · have hlm : len ≤ m := by rw [hmm]; split <;> omega
    obtain ⟨L, hL, hq⟩ := exists_list (fun i b => ok b ∧ ∀ j, j < sz → w.cell? (a.add (i * sz + j)) = (f b)[j]?) len (fun i hlt => by
      obtain ⟨cs', hc, htr⟩ := hi i (by omega)
      rw [hr.1] at hc
      obtain ⟨b, hb, okb⟩ := hr.2.2 _ _ _ _ _ _ htr
      obtain ⟨_, hcl, hat⟩ := World.cells?_some hc
      refine ⟨b, okb, fun j hj => ?_⟩
      rw [← Go.Deep.add_add, hat j hj, hb])
    refine ⟨⟨some a, cap, L⟩, by show _ = [Value.slice (some a) L.length cap]; rw [hL], ?_, fun b hb => ?_, by simpa [hL] using hl, hm⟩
    · intro hne
      have hpos : 0 < L.length := by
        rcases Nat.eq_zero_or_pos L.length with h0 | h0
        · have : L = [] := List.eq_nil_of_length_eq_zero h0
          subst this; exact absurd rfl hne
        · exact h0
      have hall : ∀ j u, (L.flatMap f)[j]? = some u → w.cell? (a.add j) = some u := by
        intro j u hu
        have hj : j < L.length * sz := by rw [← flat_len f sz hr.2.1 L]; exact (List.getElem?_eq_some_iff.1 hu).1
        have hk : j / sz < L.length := (Nat.div_lt_iff_lt_mul hsz).2 hj
        obtain ⟨b, hb⟩ := some_of_lt hk
        have e1 : j / sz * sz + j % sz = j := by rw [Nat.mul_comm]; exact Nat.div_add_mod j sz
        have h1 := (hq _ b hb).2 (j % sz) (Nat.mod_lt _ hsz)
        have h2 := flat_get f sz hr.2.1 L _ b hb (j % sz) (Nat.mod_lt _ hsz)
        rw [e1] at h1 h2
        rw [h1, ← h2, hu]
      obtain ⟨b, off, spot⟩ := a
      have hspot : spot = none := by
        have hl0 : 0 < (L.flatMap f).length := by rw [flat_len f sz hr.2.1 L]; exact Nat.mul_pos hpos hsz
        have h0 := hall 0 _ (List.getElem?_eq_getElem hl0)
        simpa [Addr.add] using World.cell?_spot h0
      subst hspot
      exact ⟨b, off, rfl, fun j u hu => by have := hall j u hu; rwa [Addr.add_lit] at this⟩
    · obtain ⟨i, hi', hb'⟩ := List.getElem_of_mem hb
      exact (hq i b (by rw [List.getElem?_eq_getElem hi', hb'])).1

/-- An argument by value. -/
theorem open_rd {w : World} {t : TypeId} {α : Type} {sz : Nat} {f : α → List Value} {ok : α → Prop} (hr : Rd enc P w t sz f ok) {base : Nat} {spare : Nat → Bool} {held : Bool} {v : Value} {d : DataW H} {p : List MemPlace}
    (h : DataW.Trod enc P w base spare held t v d p) : ∃ a, v.cells.toList = f a ∧ ok a := by
  obtain ⟨fuel, hf⟩ := h
  exact hr.2.2 _ _ _ _ _ _ hf
theorem open_rd_int {r : Reach} {b0 : Nat} {w : World} {t : TypeId} (ht : P.underlying t = some (.int .i64)) (hc : P.cellsOf t = 1) {base : Nat} {spare : Nat → Bool} {held : Bool} {v : Value} {d : DataW H} {p : List MemPlace}
    (hv : Value.okWide P w r b0 t v) (h : DataW.Trod enc P w base spare held t v d p) : ∃ n : Int, v = .int .i64 n ∧ okInt n := by
  obtain ⟨n, rfl⟩ := okWide_int ht hv
  obtain ⟨a, h1, h2⟩ := open_rd (Rd_int (enc := enc) (w := w) ht hc) h
  simp [Value.cells] at h1
  exact ⟨n, rfl, h1 ▸ h2⟩
theorem open_rd_struct {r : Reach} {b0 : Nat} {w : World} {t : TypeId} {fs : Array Field} (ht : P.underlying t = some (.struct fs)) {α : Type} {sz : Nat} {f : α → List Value} {ok : α → Prop} (hr : Rd enc P w t sz f ok)
    {base : Nat} {spare : Nat → Bool} {held : Bool} {v : Value} {d : DataW H} {p : List MemPlace} (hv : Value.okWide P w r b0 t v) (h : DataW.Trod enc P w base spare held t v d p) : ∃ a, v = .agg (f a).toArray ∧ ok a := by
  obtain ⟨cs, rfl, _⟩ := okWide_struct ht hv
  obtain ⟨a, h1, h2⟩ := open_rd hr h
  refine ⟨a, ?_, h2⟩
  simp only [Value.cells] at h1
  rw [← h1]
theorem open_rd_slice {r : Reach} {b0 : Nat} {w : World} {t e : TypeId} (ht : P.underlying t = some (.slice e)) (hct : P.cellsOf t = 1) {α : Type} {sz : Nat} {f : α → List Value} {ok : α → Prop} (hsz : 0 < sz) (hr : Rd enc P w e sz f ok)
    {base : Nat} {spare : Nat → Bool} {held : Bool} {v : Value} {d : DataW H} {p : List MemPlace} (hv : Value.okWide P w r b0 t v) (h : DataW.Trod enc P w base spare held t v d p) :
    ∃ (A : Option Addr) (c : Nat) (L : List α), v = .slice A L.length c ∧ Mem w A (L.flatMap f) ∧ (∀ a ∈ L, ok a) ∧ L.length ≤ c ∧ c ≤ maxLen := by
  obtain ⟨a0, len, cap, rfl⟩ := okWide_slice ht hv
  obtain ⟨⟨A, c, L⟩, h1, h2⟩ := open_rd (Rd_slice ht hct hsz hr) h
  simp [Value.cells] at h1
  obtain ⟨rfl, rfl, rfl⟩ := h1
  exact ⟨_, _, L, rfl, h2⟩

/-! The types of this program. -/
theorem cell_int : Tryz.prog.cellsOf 3 = 1 := by kernel_rfl
theorem Rd_i (enc : TypeId × Value → H) (w : World) : Rd enc Tryz.prog w 3 1 (fun n : Int => [Value.int .i64 n]) okInt := Rd_int Tryz.underlying3 cell_int
end
end Go.Proofs.YthehcjfljjfnmaaGreat


/-
  Move: a struct of 5 numbers (spots among them); lists of it as cells; the laws' own small functions on it.
-/
namespace Go.Proofs.YthehcjfljjfnmaaGreat
open Go.RowKit Go.Sort

structure Mv where
  f : Sp
  t : Sp
  c : Int
deriving DecidableEq

def okMv (s : Mv) : Prop := okSp s.f ∧ okSp s.t ∧ okInt s.c
def moves (L : List Mv) : List Value := L.flatMap fun s => [Value.int .i64 s.f.x, Value.int .i64 s.f.y, Value.int .i64 s.t.x, Value.int .i64 s.t.y, Value.int .i64 s.c]
theorem moves_len (L : List Mv) : (moves L).length = L.length * 5 := flat_len _ 5 (fun _ => rfl) L
theorem moves_snoc (L : List Mv) (s : Mv) : moves (L ++ [s]) = moves L ++ [Value.int .i64 s.f.x, Value.int .i64 s.f.y, Value.int .i64 s.t.x, Value.int .i64 s.t.y, Value.int .i64 s.c] := by simp [moves]
theorem Mem.move {w : World} {A : Option Addr} {L : List Mv} (h : Mem w A (moves L)) {k : Nat} {s : Mv} (hk : L[k]? = some s) :
    ∃ b off, A = some ⟨b, off, none⟩ ∧ w.cell? ⟨b, off + k * 5, none⟩ = some (.int .i64 s.f.x) ∧ w.cell? ⟨b, off + k * 5 + 1, none⟩ = some (.int .i64 s.f.y) ∧ w.cell? ⟨b, off + k * 5 + 2, none⟩ = some (.int .i64 s.t.x) ∧ w.cell? ⟨b, off + k * 5 + 3, none⟩ = some (.int .i64 s.t.y) ∧ w.cell? ⟨b, off + k * 5 + 4, none⟩ = some (.int .i64 s.c) := by
  obtain ⟨b, off, e, hc⟩ := Mem.elem (sz := 5) (fun _ => rfl) h hk (by omega)
  exact ⟨b, off, e, hc 0 _ rfl, hc 1 _ rfl, hc 2 _ rfl, hc 3 _ rfl, hc 4 _ rfl⟩
theorem moves_set : ∀ (L : List Mv) (k : Nat) (s : Mv), moves (L.set k s) = ((((((((((moves L).set (k * 5) (.int .i64 s.f.x))).set (k * 5 + 1) (.int .i64 s.f.y))).set (k * 5 + 2) (.int .i64 s.t.x))).set (k * 5 + 3) (.int .i64 s.t.y))).set (k * 5 + 4) (.int .i64 s.c))
  | [], _, _ => by simp [moves]
  | x :: L, 0, n => by simp [moves]
  | x :: L, k + 1, n => by
    have := moves_set L k n
    have e1 : (k + 1) * 5 = k * 5 + 1 + 1 + 1 + 1 + 1 := by omega
    simp only [moves, List.set_cons_succ, List.flatMap_cons, List.cons_append, List.nil_append, e1] at *
    rw [this]
theorem info_move : (Tryz.prog.info? 26).map (fun i => (i.zero, i.size, i.bytes)) = some (some (.agg #[.int .i64 0, .int .i64 0, .int .i64 0, .int .i64 0, .int .i64 0]), 5, 40) := by kernel_rfl
def runMv (k : Int) (n : Nat) : List Mv := (List.range n).map fun i : Nat => ⟨⟨k + 5 * (i : Int), k + 5 * (i : Int) + 1⟩, ⟨k + 5 * (i : Int) + 2, k + 5 * (i : Int) + 3⟩, k + 5 * (i : Int) + 4⟩
theorem runMv_len (k : Int) (n : Nat) : (runMv k n).length = n := by simp [runMv]
theorem runMv_at {k : Int} {n j : Nat} (h : j < n) : (runMv k n)[j]? = some ⟨⟨k + 5 * (j : Int), k + 5 * (j : Int) + 1⟩, ⟨k + 5 * (j : Int) + 2, k + 5 * (j : Int) + 3⟩, k + 5 * (j : Int) + 4⟩ := by simp [runMv, h]
def markedMv (L : List Mv) (k : Int) (j : Nat) : List Mv := runMv k j ++ L.drop j
theorem markedMv_zero (L : List Mv) (k : Int) : markedMv L k 0 = L := by simp [markedMv, runMv]
theorem markedMv_all (L : List Mv) (k : Int) {j : Nat} (h : L.length ≤ j) (h2 : j ≤ L.length) : markedMv L k j = runMv k L.length := by
  have : j = L.length := by omega
  subst this
  simp [markedMv]
theorem markedMv_len (L : List Mv) (k : Int) {j : Nat} (h : j ≤ L.length) : (markedMv L k j).length = L.length := by simp [markedMv, runMv]; omega
theorem markedMv_set {L : List Mv} {k : Int} {j : Nat} (h : j < L.length) : (markedMv L k j).set j ⟨⟨k + 5 * (j : Int), k + 5 * (j : Int) + 1⟩, ⟨k + 5 * (j : Int) + 2, k + 5 * (j : Int) + 3⟩, k + 5 * (j : Int) + 4⟩ = markedMv L k (j + 1) := by
  have e1 : (runMv k j).length = j := runMv_len k j
  rw [markedMv, markedMv, List.set_append_right _ _ (by omega), e1, Nat.sub_self, runMv, runMv, List.range_succ, List.map_append, List.append_assoc]
  congr 1
  rw [List.drop_eq_getElem_cons h, List.set_cons_zero]
  rfl
end Go.Proofs.YthehcjfljjfnmaaGreat


/-
  Plain mathematics: two moves with delays, the least square of their way, as two programs reckon it; both say the same of a threshold.
-/
namespace Go.Proofs.YthehcjfljjfnmaaGreat
open Go.RowKit

/-- A move's place (times its counts) after c of its counts. -/
def plX (m : Mv) (c : Int) : Int := m.f.x * m.c + (m.t.x - m.f.x) * c
def plY (m : Mv) (c : Int) : Int := m.f.y * m.c + (m.t.y - m.f.y) * c
/-- How far a move with a delay has come. -/
def clk (n d c : Int) : Int := max 0 (min n (c - d))
def rlX (a b : Mv) (p q c : Int) : Int := plX a (clk a.c p c) - plX b (clk b.c q c)
def rlY (a b : Mv) (p q c : Int) : Int := plY a (clk a.c p c) - plY b (clk b.c q c)
def crs (x y z w : Int) : Int := x * w - y * z
/-- The part of the reference. -/
def ptN (x y z w : Int) : Int := -(x * (z - x) + y * (w - y))
def ptD (x y z w : Int) : Int := (z - x) * (z - x) + (w - y) * (w - y)
def ptF (x y z w : Int) : Int × Int :=
  if 0 < ptN x y z w ∧ ptN x y z w < ptD x y z w then (crs x y z w * crs x y z w, ptD x y z w) else (min (x * x + y * y) (z * z + w * w), 1)
def stF (x y z w : Int) : Int × Int :=
  if 0 < ptN x y z w ∧ ptN x y z w < ptD x y z w then (crs x y z w * crs x y z w, ptD x y z w) else (z * z + w * w, 1)
def fLt (f g : Int × Int) : Bool := decide (f.1 * g.2 < g.1 * f.2)
def spF (X Y : Nat → Int) : Nat → Int × Int
  | 0 => (-1, 1)
  | k + 1 => if (spF X Y k).1 < 0 ∨ fLt (ptF (X k) (Y k) (X (k + 1)) (Y (k + 1))) (spF X Y k) = true then ptF (X k) (Y k) (X (k + 1)) (Y (k + 1)) else spF X Y k
def imF (X Y : Nat → Int) : Nat → Int × Int
  | 0 => (X 0 * X 0 + Y 0 * Y 0, 1)
  | k + 1 => if fLt (stF (X k) (Y k) (X (k + 1)) (Y (k + 1))) (imF X Y k) = true then stF (X k) (Y k) (X (k + 1)) (Y (k + 1)) else imF X Y k

theorem sq_nonneg (a : Int) : 0 ≤ a * a := by
  rcases Int.le_total 0 a with h | h
  · exact Int.mul_nonneg h h
  · exact Int.mul_nonneg_of_nonpos_of_nonpos h h
theorem ptD_pos {x y z w : Int} (h : 0 < ptN x y z w ∧ ptN x y z w < ptD x y z w) : 0 < ptD x y z w := by omega
def fOk (f : Int × Int) : Prop := 0 ≤ f.1 ∧ 0 < f.2
theorem ptF_ok (x y z w : Int) : fOk (ptF x y z w) := by
  unfold ptF fOk
  split
  · rename_i h; exact ⟨sq_nonneg _, ptD_pos h⟩
  · have := sq_nonneg x; have := sq_nonneg y; have := sq_nonneg z; have := sq_nonneg w
    refine ⟨?_, Int.zero_lt_one⟩
    show 0 ≤ min _ _
    omega
theorem stF_ok (x y z w : Int) : fOk (stF x y z w) := by
  unfold stF fOk
  split
  · rename_i h; exact ⟨sq_nonneg _, ptD_pos h⟩
  · have := sq_nonneg z; have := sq_nonneg w
    refine ⟨?_, Int.zero_lt_one⟩
    show 0 ≤ _ + _
    omega
theorem spF_ok (X Y : Nat → Int) : ∀ k, fOk (spF X Y (k + 1))
  | 0 => by rw [spF, if_pos (.inl (by simp [spF]))]; exact ptF_ok _ _ _ _
  | k + 1 => by
    rw [spF]; split
    · exact ptF_ok _ _ _ _
    · exact spF_ok X Y k
theorem spF_pos (X Y : Nat → Int) : ∀ k, 0 < (spF X Y k).2
  | 0 => Int.zero_lt_one
  | k + 1 => (spF_ok X Y k).2
theorem imF_ok (X Y : Nat → Int) : ∀ k, fOk (imF X Y k)
  | 0 => by have := sq_nonneg (X 0); have := sq_nonneg (Y 0); exact ⟨by show 0 ≤ _ + _; omega, Int.zero_lt_one⟩
  | k + 1 => by
    rw [imF]; split
    · exact stF_ok _ _ _ _
    · exact imF_ok X Y k
/-- A fraction lies below a threshold. -/
def bel_ (f : Int × Int) (M : Int) : Prop := f.1 < M * f.2
theorem bel_min {f g : Int × Int} (hf : fOk f) (hg : fOk g) (M : Int) : bel_ (if fLt f g = true then f else g) M ↔ bel_ f M ∨ bel_ g M := by
  obtain ⟨hf1, hf2⟩ := hf
  obtain ⟨hg1, hg2⟩ := hg
  by_cases h : fLt f g = true
  · rw [if_pos h]
    refine ⟨.inl, fun h2 => ?_⟩
    rcases h2 with h2 | h2
    · exact h2
    · have h3 : f.1 * g.2 < g.1 * f.2 := by simpa [fLt] using h
      have h4 : g.1 * f.2 < M * g.2 * f.2 := Int.mul_lt_mul_of_pos_right h2 hf2
      have h5 : f.1 * g.2 < (M * f.2) * g.2 := by
        have : M * g.2 * f.2 = (M * f.2) * g.2 := by rw [Int.mul_right_comm]
        omega
      exact Int.lt_of_mul_lt_mul_right h5 (by omega)
  · rw [if_neg h]
    refine ⟨.inr, fun h2 => ?_⟩
    rcases h2 with h2 | h2
    · have h3 : g.1 * f.2 ≤ f.1 * g.2 := by simpa [fLt] using h
      have h4 : f.1 * g.2 < M * f.2 * g.2 := Int.mul_lt_mul_of_pos_right h2 hg2
      have h5 : g.1 * f.2 < (M * g.2) * f.2 := by
        have : M * f.2 * g.2 = (M * g.2) * f.2 := by rw [Int.mul_right_comm]
        omega
      exact Int.lt_of_mul_lt_mul_right h5 (by omega)
    · exact h2
theorem bel_pt (x y z w M : Int) : bel_ (ptF x y z w) M ↔ bel_ (stF x y z w) M ∨ (¬ (0 < ptN x y z w ∧ ptN x y z w < ptD x y z w) ∧ bel_ (x * x + y * y, 1) M) := by
  unfold ptF stF
  by_cases h : 0 < ptN x y z w ∧ ptN x y z w < ptD x y z w
  · simp [h]
  · simp only [h, if_false, not_false_eq_true, true_and]
    simp only [bel_]
    omega
/-- The end of a step lies below a threshold only where the step does. -/
theorem bel_end (x y z w M : Int) (h : bel_ (z * z + w * w, 1) M) : bel_ (stF x y z w) M := by
  unfold stF
  split
  · rename_i h1
    have hd := ptD_pos h1
    have hz : z * z + w * w < M := by simpa [bel_] using h
    show crs x y z w * crs x y z w < M * ptD x y z w
    have e : crs x y z w * crs x y z w = (z * z + w * w) * ptD x y z w - (z * (z - x) + w * (w - y)) * (z * (z - x) + w * (w - y)) := by
      unfold crs ptD; grind
    have h2 := sq_nonneg (z * (z - x) + w * (w - y))
    have h3 : (z * z + w * w) * ptD x y z w < M * ptD x y z w := Int.mul_lt_mul_of_pos_right hz hd
    omega
  · exact h
theorem bel_here (X Y : Nat → Int) (M : Int) : ∀ k, bel_ (X k * X k + Y k * Y k, 1) M → bel_ (imF X Y k) M
  | 0, h => h
  | k + 1, h => by
    rw [imF, bel_min (stF_ok _ _ _ _) (imF_ok X Y k)]
    exact .inl (bel_end _ _ _ _ _ h)
theorem spF_step {X Y : Nat → Int} {k : Nat} (M : Int) : bel_ (spF X Y (k + 2)) M ↔ bel_ (ptF (X (k + 1)) (Y (k + 1)) (X (k + 2)) (Y (k + 2))) M ∨ bel_ (spF X Y (k + 1)) M := by
  have h0 := spF_ok X Y k
  rw [← bel_min (ptF_ok _ _ _ _) h0]
  have e : spF X Y (k + 2) = if fLt (ptF (X (k + 1)) (Y (k + 1)) (X (k + 2)) (Y (k + 2))) (spF X Y (k + 1)) = true then ptF (X (k + 1)) (Y (k + 1)) (X (k + 2)) (Y (k + 2)) else spF X Y (k + 1) := by
    rw [spF]
    have : ¬ (spF X Y (k + 1)).1 < 0 := by have := h0.1; omega
    simp only [this, false_or]
  rw [e]
theorem spF_one {X Y : Nat → Int} : spF X Y 1 = ptF (X 0) (Y 0) (X 1) (Y 1) := by rw [spF, if_pos (.inl (by simp [spF]))]
/-- Both say the same of a threshold. -/
theorem sp_im (X Y : Nat → Int) (M : Int) : ∀ k, bel_ (spF X Y (k + 1)) M ↔ bel_ (imF X Y (k + 1)) M
  | 0 => by
    rw [spF_one, imF, bel_min (stF_ok _ _ _ _) (imF_ok X Y 0), bel_pt]
    constructor
    · rintro (h | ⟨_, h⟩)
      · exact .inl h
      · exact .inr h
    · rintro (h | h)
      · exact .inl h
      · by_cases h2 : 0 < ptN (X 0) (Y 0) (X 1) (Y 1) ∧ ptN (X 0) (Y 0) (X 1) (Y 1) < ptD (X 0) (Y 0) (X 1) (Y 1)
        · left
          have hd := ptD_pos h2
          unfold stF
          rw [if_pos h2]
          show crs _ _ _ _ * crs _ _ _ _ < M * ptD _ _ _ _
          have hz : X 0 * X 0 + Y 0 * Y 0 < M := by simpa [bel_, imF] using h
          have e : crs (X 0) (Y 0) (X 1) (Y 1) * crs (X 0) (Y 0) (X 1) (Y 1) = (X 0 * X 0 + Y 0 * Y 0) * ptD (X 0) (Y 0) (X 1) (Y 1) - (X 0 * (X 1 - X 0) + Y 0 * (Y 1 - Y 0)) * (X 0 * (X 1 - X 0) + Y 0 * (Y 1 - Y 0)) := by
            unfold crs ptD; grind
          have h4 := sq_nonneg (X 0 * (X 1 - X 0) + Y 0 * (Y 1 - Y 0))
          have h3 : (X 0 * X 0 + Y 0 * Y 0) * ptD (X 0) (Y 0) (X 1) (Y 1) < M * ptD (X 0) (Y 0) (X 1) (Y 1) := Int.mul_lt_mul_of_pos_right hz hd
          omega
        · exact .inr ⟨h2, h⟩
  | k + 1 => by
    rw [spF_step, imF, bel_min (stF_ok _ _ _ _) (imF_ok X Y (k + 1)), bel_pt, sp_im X Y M k]
    constructor
    · rintro ((h | ⟨_, h⟩) | h)
      · exact .inl h
      · exact .inr (bel_here X Y M (k + 1) h)
      · exact .inr h
    · rintro (h | h)
      · exact .inl (.inl h)
      · exact .inr h
end Go.Proofs.YthehcjfljjfnmaaGreat

