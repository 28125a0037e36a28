/-
  Contracts: MovesOf, LongestRow, LeadsTo, SameWays, the program's and the reference's.
-/
import Derived.Test.YtbnelhhicfnbeaaShm
import Derived.Laws.StructEq
namespace Go.Proofs.Ytbnelhhicfnbeaa
open Go.RowKit Go.Sort

def moV (p : Int) (s : Sp) (L : List Rw) : List Mv := if shOk p s L then mvs s L else []
theorem moV_le (p : Int) (s : Sp) (L : List Rw) : (moV p s L).length ≤ L.length := by
  unfold moV; split
  · rw [mvs_len]; omega
  · simp
theorem loOk_no {p : Int} {s : Sp} {L : List Rw} (h : shOk p s L = false ∨ L.length = 0) : loOk p s L = false ∧ loV p s L = 0 := by
  have : loOk p s L = false := by
    rcases h with h | h
    · simp [loOk, h]
    · simp [loOk, h]
  exact ⟨this, by simp [loV, this]⟩
/-- A call hands back a spot and a bool. -/
def RetSp (w : World) (v : Sp) (ok : Bool) (e : Ending) (w' : World) : Prop := e = .returned (.tuple #[.agg #[.int .i64 v.x, .int .i64 v.y], .bool ok]) ∧ Below w.heap.size w w'
def ldV (p : Int) (s : Sp) (L : List Rw) : Sp := if shOk p s L then (match L.getLast? with | none => s | some r => r.t) else ⟨0, 0⟩
theorem ldV_last {p : Int} {s : Sp} {L : List Rw} {r : Rw} (h : shOk p s L = true) (hr : L[L.length - 1]? = some r) : ldV p s L = r.t := by
  have : L.getLast? = some r := by rw [List.getLast?_eq_getElem?]; exact hr
  simp [ldV, h, this]
theorem ldV_first {p : Int} {s : Sp} {L : List Rw} (h : shOk p s L = true) (hl : L.length = 0) : ldV p s L = s := by
  have : L = [] := List.eq_nil_of_length_eq_zero hl
  subst this
  simp [ldV, h]
theorem RetSp.mk {w w' : World} {v u : Sp} {ok b : Bool} (hv : v = u) (hok : ok = b) (hb : Below w.heap.size w w') : RetSp w v ok (.returned (.tuple #[.agg #[.int .i64 u.x, .int .i64 u.y], .bool b])) w' := by
  subst hv hok
  exact ⟨rfl, hb⟩

/-- How many rows are alike. -/
def cpl : List Rw → List Rw → Nat
  | a :: L, b :: M => if a = b then cpl L M + 1 else 0
  | _, _ => 0
theorem cpl_eq : ∀ {L M : List Rw} {k : Nat}, L.take k = M.take k → k ≤ L.length → k ≤ M.length → (k = L.length ∨ k = M.length ∨ ∃ a b, L[k]? = some a ∧ M[k]? = some b ∧ a ≠ b) → cpl L M = k
  | [], M, k, _, h1, _, _ => by
    have : k = 0 := by simpa using h1
    subst this; simp [cpl]
  | a :: L, [], k, _, _, h2, _ => by
    have : k = 0 := by simpa using h2
    subst this; simp [cpl]
  | a :: L, b :: M, 0, _, _, _, h => by
    rcases h with h | h | ⟨x, y, hx, hy, hne⟩
    · simp at h
    · simp at h
    · have e1 : a = x := by simpa using hx
      have e2 : b = y := by simpa using hy
      subst e1 e2
      simp [cpl, hne]
  | a :: L, b :: M, k + 1, h, h1, h2, h3 => by
    simp only [List.take_succ_cons, List.cons.injEq] at h
    obtain ⟨rfl, h⟩ := h
    have ih := cpl_eq (L := L) (M := M) (k := k) h (by simpa using h1) (by simpa using h2) (by
      rcases h3 with h3 | h3 | ⟨x, y, hx, hy, hne⟩
      · left; simpa using h3
      · right; left; simpa using h3
      · right; right; exact ⟨x, y, by simpa using hx, by simpa using hy, hne⟩)
    simp [cpl, ih]
def swOk (p q : Int) (s t : Sp) (L M : List Rw) : Bool := (shOk p s L && shOk q t M) && decide (s = t)
def swV (p q : Int) (s t : Sp) (L M : List Rw) : Int := if swOk p q s t L M then (cpl L M : Int) else 0
theorem sp_neq {a b : Sp} (h : ¬ a = b) : (a.x == b.x) = false ∨ ((a.x == b.x) = true ∧ (a.y == b.y) = false) := by
  by_cases h1 : a.x = b.x
  · refine .inr ⟨by simpa using h1, ?_⟩
    rw [beq_eq_false_iff_ne]
    intro h2
    cases a; cases b
    simp_all
  · exact .inl (by simpa using h1)
theorem rw_neq {a b : Rw} (h : ¬ a = b) : (a.c == b.c) = false ∨ ((a.c == b.c) = true ∧ (a.t.x == b.t.x) = false) ∨ ((a.c == b.c) = true ∧ (a.t.x == b.t.x) = true ∧ (a.t.y == b.t.y) = false) := by
  by_cases h1 : a.c = b.c
  · have h2 : ¬ a.t = b.t := fun e => by
      cases a; cases b
      simp_all
    rcases sp_neq h2 with h3 | ⟨h3, h4⟩
    · exact .inr (.inl ⟨by simpa using h1, h3⟩)
    · exact .inr (.inr ⟨by simpa using h1, h3, h4⟩)
  · exact .inl (by simpa using h1)

end Go.Proofs.Ytbnelhhicfnbeaa
