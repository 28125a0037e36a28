/-
  Contracts: MovesOf, LongestRow, LeadsTo, SameWays, the program's and the reference's.
-/
import Derived.Test.YtbgbcajcajaocaaShm
import Derived.Laws.StructEq
namespace Go.Proofs.Ytbgbcajcajaocaa
open Go.RowKit Go.Sort

def moV (p : Int) (s : Sp) (L : List Rw) : List Mv := if shOk p s L then mvs s L else []
theorem moV_le (p : Int) (s : Sp) (L : List Rw) : (moV p s L).length ≤ L.length := by
  unfold moV; split
  · rw [mvs_len]; omega
  · simp
theorem loOk_no {p : Int} {s : Sp} {L : List Rw} (h : shOk p s L = false ∨ L.length = 0) : loOk p s L = false ∧ loV p s L = 0 := by
  have : loOk p s L = false := by
    rcases h with h | h
    · simp [loOk, h]
    · simp [loOk, h]
  exact ⟨this, by simp [loV, this]⟩
/-- A call hands back a spot and a bool. -/
def RetSp (w : World) (v : Sp) (ok : Bool) (e : Ending) (w' : World) : Prop := e = .returned (.tuple #[.agg #[.int .i64 v.x, .int .i64 v.y], .bool ok]) ∧ Below w.heap.size w w'
def ldV (p : Int) (s : Sp) (L : List Rw) : Sp := if shOk p s L then (match L.getLast? with | none => s | some r => r.t) else ⟨0, 0⟩
theorem ldV_last {p : Int} {s : Sp} {L : List Rw} {r : Rw} (h : shOk p s L = true) (hr : L[L.length - 1]? = some r) : ldV p s L = r.t := by
  have : L.getLast? = some r := by rw [List.getLast?_eq_getElem?]; exact hr
  simp [ldV, h, this]
theorem ldV_first {p : Int} {s : Sp} {L : List Rw} (h : shOk p s L = true) (hl : L.length = 0) : ldV p s L = s := by
  have : L = [] := List.eq_nil_of_length_eq_zero hl
  subst this
  simp [ldV, h]
theorem RetSp.mk {w w' : World} {v u : Sp} {ok b : Bool} (hv : v = u) (hok : ok = b) (hb : Below w.heap.size w w') : RetSp w v ok (.returned (.tuple #[.agg #[.int .i64 u.x, .int .i64 u.y], .bool b])) w' := by
  subst hv hok
  exact ⟨rfl, hb⟩

/-- How many rows are alike. -/
def cpl : List Rw → List Rw → Nat
  | a :: L, b :: M => if a = b then cpl L M + 1 else 0
  | _, _ => 0
theorem cpl_eq : ∀ {L M : List Rw} {k : Nat}, L.take k = M.take k → k ≤ L.length → k ≤ M.length → (k = L.length ∨ k = M.length ∨ ∃ a b, L[k]? = some a ∧ M[k]? = some b ∧ a ≠ b) → cpl L M = k
  | [], M, k, _, h1, _, _ => by
    have : k = 0 := by simpa using h1
    subst this; simp [cpl]
  | a :: L, [], k, _, _, h2, _ => by
    have : k = 0 := by simpa using h2
    subst this; simp [cpl]
  | a :: L, b :: M, 0, _, _, _, h => by
    rcases h with h | h | ⟨x, y, hx, hy, hne⟩
    · simp at h
    · simp at h
    · have e1 : a = x := by simpa using hx
      have e2 : b = y := by simpa using hy
      subst e1 e2
      simp [cpl, hne]
  | a :: L, b :: M, k + 1, h, h1, h2, h3 => by
    simp only [List.take_succ_cons, List.cons.injEq] at h
    obtain ⟨rfl, h⟩ := h
    have ih := cpl_eq (L := L) (M := M) (k := k) h (by simpa using h1) (by simpa using h2) (by
      rcases h3 with h3 | h3 | ⟨x, y, hx, hy, hne⟩
      · left; simpa using h3
      · right; left; simpa using h3
      · right; right; exact ⟨x, y, by simpa using hx, by simpa using hy, hne⟩)
    simp [cpl, ih]
def swOk (p q : Int) (s t : Sp) (L M : List Rw) : Bool := (shOk p s L && shOk q t M) && decide (s = t)
def swV (p q : Int) (s t : Sp) (L M : List Rw) : Int := if swOk p q s t L M then (cpl L M : Int) else 0
theorem sp_neq {a b : Sp} (h : ¬ a = b) : (a.x == b.x) = false ∨ ((a.x == b.x) = true ∧ (a.y == b.y) = false) := by
  by_cases h1 : a.x = b.x
  · refine .inr ⟨by simpa using h1, ?_⟩
    rw [beq_eq_false_iff_ne]
    intro h2
    cases a; cases b
    simp_all
  · exact .inl (by simpa using h1)
theorem rw_neq {a b : Rw} (h : ¬ a = b) : (a.c == b.c) = false ∨ ((a.c == b.c) = true ∧ (a.t.x == b.t.x) = false) ∨ ((a.c == b.c) = true ∧ (a.t.x == b.t.x) = true ∧ (a.t.y == b.t.y) = false) := by
  by_cases h1 : a.c = b.c
  · have h2 : ¬ a.t = b.t := fun e => by
      cases a; cases b
      simp_all
    rcases sp_neq h2 with h3 | ⟨h3, h4⟩
    · exact .inr (.inl ⟨by simpa using h1, h3⟩)
    · exact .inr (.inr ⟨by simpa using h1, h3, h4⟩)
  · exact .inl (by simpa using h1)

set_option maxHeartbeats 1600000 in
set_option maxRecDepth 100000 in
theorem spec_LeadsTo_any (p : Int) (s : Sp) (A : Option Addr) (c : Nat) (L : List Rw) (w : World) (hm : Mem w A (rows L)) (hl : L.length ≤ 1048576) : Calls Try.prog 39 #[.agg #[.int .i64 p, .int .i64 s.x, .int .i64 s.y, .slice A L.length c]] w (RetSp w (ldV p s L) (shOk p s L)) := by
  have hcall := shGood_any p s A c L ((w.alloc (.cells #[.int .i64 p, .int .i64 s.x, .int .i64 s.y, .slice A L.length c] 29)).alloc (.cells #[.int .i64 0, .int .i64 0] 26)) (hm.below (by (repeat (first | exact Below.refl _ _ | assumption | (refine Below.alloc ?_ (by first | omega | (simp; done) | (simp; omega)) _) | (refine Below.setCell ?_ (by first | omega | (simp; done) | (simp; omega)) _) | (refine Below.drew ?_) | (refine Below.drewN ?_ _) | (refine Below.next (by assumption) ?_ (by first | omega | (simp; done) | (simp; omega))))))) hl
  cases h1 : shOk p s L
  all_goals have H1 := Lib.hid h1
  all_goals
    go_enter Try.func39, Try.ntmps39
    go_wp2_with fail
    refine hcall.mono ?_
    rintro e w1 ⟨he, hq⟩
    rw [H1.out] at he
    subst he
    have q0 : w1.cell? ⟨w.heap.size, 0, none⟩ = some (.int .i64 p) := (hq.cell (by simp; omega)).trans (by simp [go_sem])
    have q1 : w1.cell? ⟨w.heap.size, 1, none⟩ = some (.int .i64 s.x) := (hq.cell (by simp; omega)).trans (by simp [go_sem])
    have q2 : w1.cell? ⟨w.heap.size, 2, none⟩ = some (.int .i64 s.y) := (hq.cell (by simp; omega)).trans (by simp [go_sem])
    have q3 : w1.cell? ⟨w.heap.size, 3, none⟩ = some (.slice A L.length c) := (hq.cell (by simp; omega)).trans (by simp [go_sem])
    have r0 : w1.cell? ⟨w.heap.size + 1, 0, none⟩ = some (.int .i64 0) := (hq.cell (by simp)).trans (by simp [go_sem])
    have r1 : w1.cell? ⟨w.heap.size + 1, 1, none⟩ = some (.int .i64 0) := (hq.cell (by simp)).trans (by simp [go_sem])
    have f0 : w1.frozen? ⟨w.heap.size + 1, 0, none⟩ = false := (hq.frozen (by simp)).trans (by simp [go_sem])
    have f1 : w1.frozen? ⟨w.heap.size + 1, 1, none⟩ = false := (hq.frozen (by simp)).trans (by simp [go_sem])
    have hb : Below w.heap.size w w1 := by (repeat (first | exact Below.refl _ _ | assumption | (refine Below.alloc ?_ (by first | omega | (simp; done) | (simp; omega)) _) | (refine Below.setCell ?_ (by first | omega | (simp; done) | (simp; omega)) _) | (refine Below.drew ?_) | (refine Below.drewN ?_ _) | (refine Below.next (by assumption) ?_ (by first | omega | (simp; done) | (simp; omega)))))
    have hsz := hb.size
    clear hq hcall
  · clear h1
    go_wp2
    exact bodyPost_ret (v := .tuple #[.agg #[.int .i64 0, .int .i64 0], .bool false]) (by simp [results, Try.results39, go_sem, r0, r1]) rfl (RetSp.mk (u := ⟨0, 0⟩) (by simp [ldV, H1.out]) rfl (by (repeat (first | exact Below.refl _ _ | assumption | (refine Below.alloc ?_ (by first | omega | (simp; done) | (simp; omega)) _) | (refine Below.setCell ?_ (by first | omega | (simp; done) | (simp; omega)) _) | (refine Below.drew ?_) | (refine Below.drewN ?_ _) | (refine Below.next (by assumption) ?_ (by first | omega | (simp; done) | (simp; omega)))))))
  · by_cases h2 : L.length = 0
    · have h3 : ((L.length : Int) == 0) = true := by simpa using h2
      have H2 := Lib.hid h2
      clear h1 h2
      go_wp2
      exact bodyPost_ret (v := .tuple #[.agg #[.int .i64 s.x, .int .i64 s.y], .bool true]) (by simp [results, Try.results39, go_sem, r0, r1]) rfl (RetSp.mk (ldV_first H1.out H2.out) rfl (by (repeat (first | exact Below.refl _ _ | assumption | (refine Below.alloc ?_ (by first | omega | (simp; done) | (simp; omega)) _) | (refine Below.setCell ?_ (by first | omega | (simp; done) | (simp; omega)) _) | (refine Below.drew ?_) | (refine Below.drewN ?_ _) | (refine Below.next (by assumption) ?_ (by first | omega | (simp; done) | (simp; omega)))))))
    · have h3 : ((L.length : Int) == 0) = false := by simpa using h2
      have h4 : 0 < L.length := by omega
      obtain ⟨r, hr⟩ := some_of_lt (L := L) (k := L.length - 1) (by omega)
      obtain ⟨b, off, rfl, e1, e2, e3⟩ := (hm.below hb).row hr
      have HR := Lib.hid hr
      clear h1 h2 hr
      go_wp2
      exact bodyPost_ret (v := .tuple #[.agg #[.int .i64 r.t.x, .int .i64 r.t.y], .bool true]) (by simp [results, Try.results39, go_sem, r0, r1]) rfl (RetSp.mk (ldV_last H1.out HR.out) rfl (by (repeat (first | exact Below.refl _ _ | assumption | (refine Below.alloc ?_ (by first | omega | (simp; done) | (simp; omega)) _) | (refine Below.setCell ?_ (by first | omega | (simp; done) | (simp; omega)) _) | (refine Below.drew ?_) | (refine Below.drewN ?_ _) | (refine Below.next (by assumption) ?_ (by first | omega | (simp; done) | (simp; omega)))))))
set_option maxHeartbeats 1600000 in
set_option maxRecDepth 100000 in
theorem impl_LeadsTo_any (p : Int) (s : Sp) (A : Option Addr) (c : Nat) (L : List Rw) (w : World) (hm : Mem w A (rows L)) (hl : L.length ≤ 1048576) : Calls Try.prog 29 #[.agg #[.int .i64 p, .int .i64 s.x, .int .i64 s.y, .slice A L.length c]] w (RetSp w (ldV p s L) (shOk p s L)) := by
  have hcall := IsSheet_any p s A c L ((w.alloc (.cells #[.int .i64 p, .int .i64 s.x, .int .i64 s.y, .slice A L.length c] 29)).alloc (.cells #[.int .i64 0, .int .i64 0] 26)) (hm.below (by (repeat (first | exact Below.refl _ _ | assumption | (refine Below.alloc ?_ (by first | omega | (simp; done) | (simp; omega)) _) | (refine Below.setCell ?_ (by first | omega | (simp; done) | (simp; omega)) _) | (refine Below.drew ?_) | (refine Below.drewN ?_ _) | (refine Below.next (by assumption) ?_ (by first | omega | (simp; done) | (simp; omega))))))) hl
  cases h1 : shOk p s L
  all_goals have H1 := Lib.hid h1
  all_goals
    go_enter Try.func29, Try.ntmps29
    go_wp2_with fail
    refine hcall.mono ?_
    rintro e w1 ⟨he, hq⟩
    rw [H1.out] at he
    subst he
    have q0 : w1.cell? ⟨w.heap.size, 0, none⟩ = some (.int .i64 p) := (hq.cell (by simp; omega)).trans (by simp [go_sem])
    have q1 : w1.cell? ⟨w.heap.size, 1, none⟩ = some (.int .i64 s.x) := (hq.cell (by simp; omega)).trans (by simp [go_sem])
    have q2 : w1.cell? ⟨w.heap.size, 2, none⟩ = some (.int .i64 s.y) := (hq.cell (by simp; omega)).trans (by simp [go_sem])
    have q3 : w1.cell? ⟨w.heap.size, 3, none⟩ = some (.slice A L.length c) := (hq.cell (by simp; omega)).trans (by simp [go_sem])
    have r0 : w1.cell? ⟨w.heap.size + 1, 0, none⟩ = some (.int .i64 0) := (hq.cell (by simp)).trans (by simp [go_sem])
    have r1 : w1.cell? ⟨w.heap.size + 1, 1, none⟩ = some (.int .i64 0) := (hq.cell (by simp)).trans (by simp [go_sem])
    have f0 : w1.frozen? ⟨w.heap.size + 1, 0, none⟩ = false := (hq.frozen (by simp)).trans (by simp [go_sem])
    have f1 : w1.frozen? ⟨w.heap.size + 1, 1, none⟩ = false := (hq.frozen (by simp)).trans (by simp [go_sem])
    have hb : Below w.heap.size w w1 := by (repeat (first | exact Below.refl _ _ | assumption | (refine Below.alloc ?_ (by first | omega | (simp; done) | (simp; omega)) _) | (refine Below.setCell ?_ (by first | omega | (simp; done) | (simp; omega)) _) | (refine Below.drew ?_) | (refine Below.drewN ?_ _) | (refine Below.next (by assumption) ?_ (by first | omega | (simp; done) | (simp; omega)))))
    have hsz := hb.size
    clear hq hcall
  · clear h1
    go_wp2
    exact bodyPost_ret (v := .tuple #[.agg #[.int .i64 0, .int .i64 0], .bool false]) (by simp [results, Try.results29, go_sem, r0, r1]) rfl (RetSp.mk (u := ⟨0, 0⟩) (by simp [ldV, H1.out]) rfl (by (repeat (first | exact Below.refl _ _ | assumption | (refine Below.alloc ?_ (by first | omega | (simp; done) | (simp; omega)) _) | (refine Below.setCell ?_ (by first | omega | (simp; done) | (simp; omega)) _) | (refine Below.drew ?_) | (refine Below.drewN ?_ _) | (refine Below.next (by assumption) ?_ (by first | omega | (simp; done) | (simp; omega)))))))
  · by_cases h2 : L.length = 0
    · have h3 : ((L.length : Int) == 0) = true := by simpa using h2
      have H2 := Lib.hid h2
      clear h1 h2
      go_wp2
      exact bodyPost_ret (v := .tuple #[.agg #[.int .i64 s.x, .int .i64 s.y], .bool true]) (by simp [results, Try.results29, go_sem, r0, r1]) rfl (RetSp.mk (ldV_first H1.out H2.out) rfl (by (repeat (first | exact Below.refl _ _ | assumption | (refine Below.alloc ?_ (by first | omega | (simp; done) | (simp; omega)) _) | (refine Below.setCell ?_ (by first | omega | (simp; done) | (simp; omega)) _) | (refine Below.drew ?_) | (refine Below.drewN ?_ _) | (refine Below.next (by assumption) ?_ (by first | omega | (simp; done) | (simp; omega)))))))
    · have h3 : ((L.length : Int) == 0) = false := by simpa using h2
      have h4 : 0 < L.length := by omega
      obtain ⟨r, hr⟩ := some_of_lt (L := L) (k := L.length - 1) (by omega)
      obtain ⟨b, off, rfl, e1, e2, e3⟩ := (hm.below hb).row hr
      have HR := Lib.hid hr
      clear h1 h2 hr
      go_wp2
      exact bodyPost_ret (v := .tuple #[.agg #[.int .i64 r.t.x, .int .i64 r.t.y], .bool true]) (by simp [results, Try.results29, go_sem, r0, r1]) rfl (RetSp.mk (ldV_last H1.out HR.out) rfl (by (repeat (first | exact Below.refl _ _ | assumption | (refine Below.alloc ?_ (by first | omega | (simp; done) | (simp; omega)) _) | (refine Below.setCell ?_ (by first | omega | (simp; done) | (simp; omega)) _) | (refine Below.drew ?_) | (refine Below.drewN ?_ _) | (refine Below.next (by assumption) ?_ (by first | omega | (simp; done) | (simp; omega)))))))
end Go.Proofs.Ytbgbcajcajaocaa
