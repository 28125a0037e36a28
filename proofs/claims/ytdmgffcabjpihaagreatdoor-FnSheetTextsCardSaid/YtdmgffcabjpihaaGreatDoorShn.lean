/-
  Contracts: MovesOf, LongestRow, LeadsTo, SameWays, the program's and the reference's.
-/
import Derived.Test.YtdmgffcabjpihaaGreatDoorShm
import Derived.Laws.StructEq
namespace Go.Proofs.YtdmgffcabjpihaaGreatDoor
open Go.RowKit Go.Sort

def moV (p : Int) (s : Sp) (L : List Rw) : List Mv := if shOk p s L then mvs s L else []
theorem moV_le (p : Int) (s : Sp) (L : List Rw) : (moV p s L).length ≤ L.length := by
  unfold moV; split
  · rw [mvs_len]; omega
  · simp
theorem loOk_no {p : Int} {s : Sp} {L : List Rw} (h : shOk p s L = false ∨ L.length = 0) : loOk p s L = false ∧ loV p s L = 0 := by
  have : loOk p s L = false := by
    rcases h with h | h
    · simp [loOk, h]
    · simp [loOk, h]
  exact ⟨this, by simp [loV, this]⟩
/-- A call hands back a spot and a bool. -/
def RetSp (w : World) (v : Sp) (ok : Bool) (e : Ending) (w' : World) : Prop := e = .returned (.tuple #[.agg #[.int .i64 v.x, .int .i64 v.y], .bool ok]) ∧ Below w.heap.size w w'
def ldV (p : Int) (s : Sp) (L : List Rw) : Sp := if shOk p s L then (match L.getLast? with | none => s | some r => r.t) else ⟨0, 0⟩
theorem ldV_last {p : Int} {s : Sp} {L : List Rw} {r : Rw} (h : shOk p s L = true) (hr : L[L.length - 1]? = some r) : ldV p s L = r.t := by
  have : L.getLast? = some r := by rw [List.getLast?_eq_getElem?]; exact hr
  simp [ldV, h, this]
theorem ldV_first {p : Int} {s : Sp} {L : List Rw} (h : shOk p s L = true) (hl : L.length = 0) : ldV p s L = s := by
  have : L = [] := List.eq_nil_of_length_eq_zero hl
  subst this
  simp [ldV, h]
theorem RetSp.mk {w w' : World} {v u : Sp} {ok b : Bool} (hv : v = u) (hok : ok = b) (hb : Below w.heap.size w w') : RetSp w v ok (.returned (.tuple #[.agg #[.int .i64 u.x, .int .i64 u.y], .bool b])) w' := by
  subst hv hok
  exact ⟨rfl, hb⟩

/-- How many rows are alike. -/
def cpl : List Rw → List Rw → Nat
  | a :: L, b :: M => if a = b then cpl L M + 1 else 0
  | _, _ => 0
theorem cpl_eq : ∀ {L M : List Rw} {k : Nat}, L.take k = M.take k → k ≤ L.length → k ≤ M.length → (k = L.length ∨ k = M.length ∨ ∃ a b, L[k]? = some a ∧ M[k]? = some b ∧ a ≠ b) → cpl L M = k
  | [], M, k, _, h1, _, _ => by
    have : k = 0 := by simpa using h1
    subst this; simp [cpl]
  | a :: L, [], k, _, _, h2, _ => by
    have : k = 0 := by simpa using h2
    subst this; simp [cpl]
  | a :: L, b :: M, 0, _, _, _, h => by
    rcases h with h | h | ⟨x, y, hx, hy, hne⟩
    · simp at h
    · simp at h
    · have e1 : a = x := by simpa using hx
      have e2 : b = y := by simpa using hy
      subst e1 e2
      simp [cpl, hne]
  | a :: L, b :: M, k + 1, h, h1, h2, h3 => by
    simp only [List.take_succ_cons, List.cons.injEq] at h
    obtain ⟨rfl, h⟩ := h
    have ih := cpl_eq (L := L) (M := M) (k := k) h (by simpa using h1) (by simpa using h2) (by
      rcases h3 with h3 | h3 | ⟨x, y, hx, hy, hne⟩
      · left; simpa using h3
      · right; left; simpa using h3
      · right; right; exact ⟨x, y, by simpa using hx, by simpa using hy, hne⟩)
    simp [cpl, ih]
def swOk (p q : Int) (s t : Sp) (L M : List Rw) : Bool := (shOk p s L && shOk q t M) && decide (s = t)
def swV (p q : Int) (s t : Sp) (L M : List Rw) : Int := if swOk p q s t L M then (cpl L M : Int) else 0
theorem sp_neq {a b : Sp} (h : ¬ a = b) : (a.x == b.x) = false ∨ ((a.x == b.x) = true ∧ (a.y == b.y) = false) := by
  by_cases h1 : a.x = b.x
  · refine .inr ⟨by simpa using h1, ?_⟩
    rw [beq_eq_false_iff_ne]
    intro h2
    cases a; cases b
    simp_all
  · exact .inl (by simpa using h1)
theorem rw_neq {a b : Rw} (h : ¬ a = b) : (a.c == b.c) = false ∨ ((a.c == b.c) = true ∧ (a.t.x == b.t.x) = false) ∨ ((a.c == b.c) = true ∧ (a.t.x == b.t.x) = true ∧ (a.t.y == b.t.y) = false) := by
  by_cases h1 : a.c = b.c
  · have h2 : ¬ a.t = b.t := fun e => by
      cases a; cases b
      simp_all
    rcases sp_neq h2 with h3 | ⟨h3, h4⟩
    · exact .inr (.inl ⟨by simpa using h1, h3⟩)
    · exact .inr (.inr ⟨by simpa using h1, h3, h4⟩)
  · exact .inl (by simpa using h1)

set_option maxRecDepth 100000 in
theorem spec_MovesOf_any (p : Int) (s : Sp) (A : Option Addr) (c : Nat) (L : List Rw) (w : World) (hm : Mem w A (rows L)) (hl : L.length ≤ 1048576) : Calls Tryz.prog 9 #[.agg #[.int .i64 p, .int .i64 s.x, .int .i64 s.y, .slice A L.length c]] w (RetMovesB w (moV p s L) (shOk p s L)) := by
  cases h1 : shOk p s L
  all_goals have H1 := Lib.hid h1
  · clear h1
    go_enter Tryz.func9, Tryz.ntmps9
    go_wp2_with (go_at_call 28; refine (shGood_any p s _ _ L _ (hm.below (by (repeat (first | exact Below.refl _ _ | assumption | (refine Below.alloc ?_ (by first | omega | (simp; done) | (simp; omega)) _) | (refine Below.setCell ?_ (by first | omega | (simp; done) | (simp; omega)) _) | (refine Below.drew ?_) | (refine Below.drewN ?_ _) | (refine Below.next (by assumption) ?_ (by first | omega | (simp; done) | (simp; omega))))))) hl).mono ?_; rintro e w' ⟨he, hq⟩; rw [H1.out] at he; subst he; obtain ⟨hz, hc, hf⟩ := bel hq; (try simp at hz); (try simp at hz); (try have gz1 : w.heap.size < w'.heap.size := by omega); (try have gz2 : w.heap.size + 1 < w'.heap.size := by omega); (try have gz3 : wr.heap.size < w'.heap.size := by omega))
    go_ret2
    exact RetMovesB.none_ (by simp [moV, H1.out]) rfl (by (repeat (first | exact Below.refl _ _ | assumption | (refine Below.alloc ?_ (by first | omega | (simp; done) | (simp; omega)) _) | (refine Below.setCell ?_ (by first | omega | (simp; done) | (simp; omega)) _) | (refine Below.drew ?_) | (refine Below.drewN ?_ _) | (refine Below.next (by assumption) ?_ (by first | omega | (simp; done) | (simp; omega))))))
  · have HV : Hid (moV p s L = mvs s L) := Lib.hid (by simp [moV, h1])
    clear h1
    go_enter Tryz.func9, Tryz.ntmps9
    go_wp2_with (go_at_call 28; refine (shGood_any p s _ _ L _ (hm.below (by (repeat (first | exact Below.refl _ _ | assumption | (refine Below.alloc ?_ (by first | omega | (simp; done) | (simp; omega)) _) | (refine Below.setCell ?_ (by first | omega | (simp; done) | (simp; omega)) _) | (refine Below.drew ?_) | (refine Below.drewN ?_ _) | (refine Below.next (by assumption) ?_ (by first | omega | (simp; done) | (simp; omega))))))) hl).mono ?_; rintro e w' ⟨he, hq⟩; rw [H1.out] at he; subst he; obtain ⟨hz, hc, hf⟩ := bel hq; (try simp at hz); (try simp at hz); (try have gz1 : w.heap.size < w'.heap.size := by omega); (try have gz2 : w.heap.size + 1 < w'.heap.size := by omega); (try have gz3 : wr.heap.size < w'.heap.size := by omega))
    refine (shRows_any p s _ _ L _ (hm.below (by (repeat (first | exact Below.refl _ _ | assumption | (refine Below.alloc ?_ (by first | omega | (simp; done) | (simp; omega)) _) | (refine Below.setCell ?_ (by first | omega | (simp; done) | (simp; omega)) _) | (refine Below.drew ?_) | (refine Below.drewN ?_ _) | (refine Below.next (by assumption) ?_ (by first | omega | (simp; done) | (simp; omega))))))) hl).mono ?_
    rintro e w1 ⟨A1, c1, rfl, ho, hq1⟩
    go_wp2_with fail
    go_ret2
    exact RetMovesB.some_ rfl HV.out ho rfl (by omega) (by (repeat (first | exact Below.refl _ _ | assumption | (refine Below.alloc ?_ (by first | omega | (simp; done) | (simp; omega)) _) | (refine Below.setCell ?_ (by first | omega | (simp; done) | (simp; omega)) _) | (refine Below.drew ?_) | (refine Below.drewN ?_ _) | (refine Below.next (by assumption) ?_ (by first | omega | (simp; done) | (simp; omega))))))
set_option maxRecDepth 100000 in
theorem impl_MovesOf_any (p : Int) (s : Sp) (A : Option Addr) (c : Nat) (L : List Rw) (w : World) (hm : Mem w A (rows L)) (hl : L.length ≤ 1048576) : Calls Tryz.prog 8 #[.agg #[.int .i64 p, .int .i64 s.x, .int .i64 s.y, .slice A L.length c]] w (RetMovesB w (moV p s L) (shOk p s L)) := by
  cases h1 : shOk p s L
  all_goals have H1 := Lib.hid h1
  · clear h1
    go_enter Tryz.func8, Tryz.ntmps8
    go_wp2_with (go_at_call 16; refine (IsSheet_any p s _ _ L _ (hm.below (by (repeat (first | exact Below.refl _ _ | assumption | (refine Below.alloc ?_ (by first | omega | (simp; done) | (simp; omega)) _) | (refine Below.setCell ?_ (by first | omega | (simp; done) | (simp; omega)) _) | (refine Below.drew ?_) | (refine Below.drewN ?_ _) | (refine Below.next (by assumption) ?_ (by first | omega | (simp; done) | (simp; omega))))))) hl).mono ?_; rintro e w' ⟨he, hq⟩; rw [H1.out] at he; subst he; obtain ⟨hz, hc, hf⟩ := bel hq; (try simp at hz); (try simp at hz); (try have gz1 : w.heap.size < w'.heap.size := by omega); (try have gz2 : w.heap.size + 1 < w'.heap.size := by omega); (try have gz3 : wr.heap.size < w'.heap.size := by omega))
    go_ret2
    exact RetMovesB.none_ (by simp [moV, H1.out]) rfl (by (repeat (first | exact Below.refl _ _ | assumption | (refine Below.alloc ?_ (by first | omega | (simp; done) | (simp; omega)) _) | (refine Below.setCell ?_ (by first | omega | (simp; done) | (simp; omega)) _) | (refine Below.drew ?_) | (refine Below.drewN ?_ _) | (refine Below.next (by assumption) ?_ (by first | omega | (simp; done) | (simp; omega))))))
  · have HV : Hid (moV p s L = mvs s L) := Lib.hid (by simp [moV, h1])
    clear h1
    go_enter Tryz.func8, Tryz.ntmps8
    go_wp2_with (go_at_call 16; refine (IsSheet_any p s _ _ L _ (hm.below (by (repeat (first | exact Below.refl _ _ | assumption | (refine Below.alloc ?_ (by first | omega | (simp; done) | (simp; omega)) _) | (refine Below.setCell ?_ (by first | omega | (simp; done) | (simp; omega)) _) | (refine Below.drew ?_) | (refine Below.drewN ?_ _) | (refine Below.next (by assumption) ?_ (by first | omega | (simp; done) | (simp; omega))))))) hl).mono ?_; rintro e w' ⟨he, hq⟩; rw [H1.out] at he; subst he; obtain ⟨hz, hc, hf⟩ := bel hq; (try simp at hz); (try simp at hz); (try have gz1 : w.heap.size < w'.heap.size := by omega); (try have gz2 : w.heap.size + 1 < w'.heap.size := by omega); (try have gz3 : wr.heap.size < w'.heap.size := by omega))
    refine (sheetMoves_any p s _ _ L _ (hm.below (by (repeat (first | exact Below.refl _ _ | assumption | (refine Below.alloc ?_ (by first | omega | (simp; done) | (simp; omega)) _) | (refine Below.setCell ?_ (by first | omega | (simp; done) | (simp; omega)) _) | (refine Below.drew ?_) | (refine Below.drewN ?_ _) | (refine Below.next (by assumption) ?_ (by first | omega | (simp; done) | (simp; omega))))))) hl).mono ?_
    rintro e w1 ⟨A1, c1, rfl, ho, hq1⟩
    go_wp2_with fail
    go_ret2
    exact RetMovesB.some_ rfl HV.out ho rfl (by omega) (by (repeat (first | exact Below.refl _ _ | assumption | (refine Below.alloc ?_ (by first | omega | (simp; done) | (simp; omega)) _) | (refine Below.setCell ?_ (by first | omega | (simp; done) | (simp; omega)) _) | (refine Below.drew ?_) | (refine Below.drewN ?_ _) | (refine Below.next (by assumption) ?_ (by first | omega | (simp; done) | (simp; omega))))))
set_option maxHeartbeats 1600000 in
set_option maxRecDepth 100000 in
theorem spec_LongestRow_any (p : Int) (s : Sp) (A : Option Addr) (c : Nat) (L : List Rw) (w : World) (hm : Mem w A (rows L)) (hl : L.length ≤ 1048576) : Calls Tryz.prog 13 #[.agg #[.int .i64 p, .int .i64 s.x, .int .i64 s.y, .slice A L.length c]] w fun e w' => e = .returned (.tuple #[.int .i64 (loV p s L), .bool (loOk p s L)]) ∧ Below w.heap.size w w' := by
  cases h1 : shOk p s L
  all_goals have H1 := Lib.hid h1
  · have H0 := Lib.hid (loOk_no (p := p) (s := s) (L := L) (.inl h1))
    clear h1
    go_enter Tryz.func13, Tryz.ntmps13
    go_wp2_with (go_at_call 28; refine (shGood_any p s _ _ L _ (hm.below (by (repeat (first | exact Below.refl _ _ | assumption | (refine Below.alloc ?_ (by first | omega | (simp; done) | (simp; omega)) _) | (refine Below.setCell ?_ (by first | omega | (simp; done) | (simp; omega)) _) | (refine Below.drew ?_) | (refine Below.drewN ?_ _) | (refine Below.next (by assumption) ?_ (by first | omega | (simp; done) | (simp; omega))))))) hl).mono ?_; rintro e w' ⟨he, hq⟩; rw [H1.out] at he; subst he; obtain ⟨hz, hc, hf⟩ := bel hq; (try simp at hz); (try simp at hz); (try have gz1 : w.heap.size < w'.heap.size := by omega); (try have gz2 : w.heap.size + 1 < w'.heap.size := by omega); (try have gz3 : wr.heap.size < w'.heap.size := by omega))
    go_ret2
    exact ⟨ret_pair H0.out.2.symm H0.out.1.symm, by (repeat (first | exact Below.refl _ _ | assumption | (refine Below.alloc ?_ (by first | omega | (simp; done) | (simp; omega)) _) | (refine Below.setCell ?_ (by first | omega | (simp; done) | (simp; omega)) _) | (refine Below.drew ?_) | (refine Below.drewN ?_ _) | (refine Below.next (by assumption) ?_ (by first | omega | (simp; done) | (simp; omega)))))⟩
  by_cases h2 : L.length = 0
  · have H0 := Lib.hid (loOk_no (p := p) (s := s) (L := L) (.inr h2))
    have h3 : ((L.length : Int) == 0) = true := by simpa using h2
    clear h1 h2
    go_enter Tryz.func13, Tryz.ntmps13
    go_wp2_with (go_at_call 28; refine (shGood_any p s _ _ L _ (hm.below (by (repeat (first | exact Below.refl _ _ | assumption | (refine Below.alloc ?_ (by first | omega | (simp; done) | (simp; omega)) _) | (refine Below.setCell ?_ (by first | omega | (simp; done) | (simp; omega)) _) | (refine Below.drew ?_) | (refine Below.drewN ?_ _) | (refine Below.next (by assumption) ?_ (by first | omega | (simp; done) | (simp; omega))))))) hl).mono ?_; rintro e w' ⟨he, hq⟩; rw [H1.out] at he; subst he; obtain ⟨hz, hc, hf⟩ := bel hq; (try simp at hz); (try simp at hz); (try have gz1 : w.heap.size < w'.heap.size := by omega); (try have gz2 : w.heap.size + 1 < w'.heap.size := by omega); (try have gz3 : wr.heap.size < w'.heap.size := by omega))
    go_ret2
    exact ⟨ret_pair H0.out.2.symm H0.out.1.symm, by (repeat (first | exact Below.refl _ _ | assumption | (refine Below.alloc ?_ (by first | omega | (simp; done) | (simp; omega)) _) | (refine Below.setCell ?_ (by first | omega | (simp; done) | (simp; omega)) _) | (refine Below.drew ?_) | (refine Below.drewN ?_ _) | (refine Below.next (by assumption) ?_ (by first | omega | (simp; done) | (simp; omega)))))⟩
  have h3 : ((L.length : Int) == 0) = false := by simpa using h2
  have hok : loOk p s L = true := by simp [loOk, h1]; omega
  have HV : Hid (loV p s L = ((loTo (msq s L) L.length).1 : Int) ∧ loOk p s L = true) := Lib.hid ⟨by simp [loV, hok], hok⟩
  obtain ⟨g1, g2, g3, g4⟩ := shOk_iff.1 h1
  have HS := Lib.hid g2
  have HR := Lib.hid g4
  have HM := Lib.hid (mvs_len s L)
  clear h1 g1 g2 g4 hok
  go_enter Tryz.func13, Tryz.ntmps13
  go_wp2_with (go_at_call 28; refine (shGood_any p s _ _ L _ (hm.below (by (repeat (first | exact Below.refl _ _ | assumption | (refine Below.alloc ?_ (by first | omega | (simp; done) | (simp; omega)) _) | (refine Below.setCell ?_ (by first | omega | (simp; done) | (simp; omega)) _) | (refine Below.drew ?_) | (refine Below.drewN ?_ _) | (refine Below.next (by assumption) ?_ (by first | omega | (simp; done) | (simp; omega))))))) hl).mono ?_; rintro e w' ⟨he, hq⟩; rw [H1.out] at he; subst he; obtain ⟨hz, hc, hf⟩ := bel hq; (try simp at hz); (try simp at hz); (try have gz1 : w.heap.size < w'.heap.size := by omega); (try have gz2 : w.heap.size + 1 < w'.heap.size := by omega); (try have gz3 : wr.heap.size < w'.heap.size := by omega))
  refine (shRows_any p s _ _ L _ (hm.below (by (repeat (first | exact Below.refl _ _ | assumption | (refine Below.alloc ?_ (by first | omega | (simp; done) | (simp; omega)) _) | (refine Below.setCell ?_ (by first | omega | (simp; done) | (simp; omega)) _) | (refine Below.drew ?_) | (refine Below.drewN ?_ _) | (refine Below.next (by assumption) ?_ (by first | omega | (simp; done) | (simp; omega))))))) hl).mono ?_
  rintro e w1 ⟨A1, c1, rfl, ho, hq1⟩
  have hb1 : Below w.heap.size w w1 := by (repeat (first | exact Below.refl _ _ | assumption | (refine Below.alloc ?_ (by first | omega | (simp; done) | (simp; omega)) _) | (refine Below.setCell ?_ (by first | omega | (simp; done) | (simp; omega)) _) | (refine Below.drew ?_) | (refine Below.drewN ?_ _) | (refine Below.next (by assumption) ?_ (by first | omega | (simp; done) | (simp; omega)))))
  rw [HM.out] at ho ⊢
  have HO := Lib.hid ho
  clear hq hz hc hf hq1 ho
  go_wp2_with fail
  go_loopw [4, 5, 6, 7, 8, 21] (fun bs ms _ _ _ i wr => ∃ (k n : Nat) (m : Int), k ≤ L.length ∧ n ≤ 8 ∧ -1 ≤ m ∧ m ≤ 2089984 ∧ i = .int .i64 k ∧ bs = .int .i64 n ∧ ms = .int .i64 m ∧ Below w1.heap.size w1 wr ∧ Hid (loTo (msq s L) k = (n, m))) (fun _ _ _ _ _ i _ => L.length - (intOf i).toNat)
  case atStart => exact ⟨0, 0, -1, by omega, by omega, by omega, by omega, rfl, rfl, rfl, Below.refl _ _, Lib.hid rfl⟩
  case round =>
    obtain ⟨k, n, m, hk, hn, hm1, hm2, rfl, rfl, rfl, hb, H⟩ := hrel
    have hb2 := Below.next hb hb1 hb1.size
    have hsz := hb2.size
    have hsz1 := hb.size
    by_cases hlt : k < L.length
    · obtain ⟨u, hu⟩ := some_of_lt (L := mvs s L) (k := k) (by rw [HM.out]; exact hlt)
      obtain ⟨b, off, rfl, e1, e2, e3, e4, e5⟩ := ((Mem.of_own HO.out).below hb).move hu
      have hug := isMv_iff.1 (mvs_ok HS.out HR.out hu)
      have hbd := sq_bd hug.1 hug.2.1
      have HST := Lib.hid (loTo_succ H.out (msq_at hu))
      obtain ⟨hu1, hu2, hu3, hu4⟩ := hug
      have HU1 := Lib.hid hu1
      have HU2 := Lib.hid hu2
      clear hu hu1 hu2
      by_cases hcmp : m < sq u.f u.t
      all_goals
        go_wp2_with (go_at_call 35; refine (stSquare_any u.f u.t HU1.out HU2.out _).mono ?_; rintro e w' ⟨rfl, o1, o2, rfl⟩)
        go_roundw
        case rel => first
          | exact ⟨k + 1, k, sq u.f u.t, by omega, by omega, by omega, by omega, by go_num, rfl, rfl, by (repeat (first | exact Below.refl _ _ | assumption | (refine Below.alloc ?_ (by first | omega | (simp; done) | (simp; omega)) _) | (refine Below.setCell ?_ (by first | omega | (simp; done) | (simp; omega)) _) | (refine Below.drew ?_) | (refine Below.drewN ?_ _) | (refine Below.next (by assumption) ?_ (by first | omega | (simp; done) | (simp; omega))))), Lib.hid (by rw [HST.out, if_pos (by omega)])⟩
          | exact ⟨k + 1, n, m, by omega, by omega, by omega, by omega, by go_num, rfl, rfl, by (repeat (first | exact Below.refl _ _ | assumption | (refine Below.alloc ?_ (by first | omega | (simp; done) | (simp; omega)) _) | (refine Below.setCell ?_ (by first | omega | (simp; done) | (simp; omega)) _) | (refine Below.drew ?_) | (refine Below.drewN ?_ _) | (refine Below.next (by assumption) ?_ (by first | omega | (simp; done) | (simp; omega))))), Lib.hid (by rw [HST.out, if_neg (by omega)])⟩
        case measure => simp [intOf]; omega
    · go_wp2
      go_ret2
      have e1 : k = L.length := by omega
      subst e1
      exact ⟨ret_pair (by rw [HV.out.1, H.out]) HV.out.2.symm, hb2⟩
set_option maxHeartbeats 1600000 in
set_option maxRecDepth 100000 in
theorem impl_LongestRow_any (p : Int) (s : Sp) (A : Option Addr) (c : Nat) (L : List Rw) (w : World) (hm : Mem w A (rows L)) (hl : L.length ≤ 1048576) : Calls Tryz.prog 12 #[.agg #[.int .i64 p, .int .i64 s.x, .int .i64 s.y, .slice A L.length c]] w fun e w' => e = .returned (.tuple #[.int .i64 (loV p s L), .bool (loOk p s L)]) ∧ Below w.heap.size w w' := by
  cases h1 : shOk p s L
  all_goals have H1 := Lib.hid h1
  · have H0 := Lib.hid (loOk_no (p := p) (s := s) (L := L) (.inl h1))
    clear h1
    go_enter Tryz.func12, Tryz.ntmps12
    go_wp2_with (go_at_call 16; refine (IsSheet_any p s _ _ L _ (hm.below (by (repeat (first | exact Below.refl _ _ | assumption | (refine Below.alloc ?_ (by first | omega | (simp; done) | (simp; omega)) _) | (refine Below.setCell ?_ (by first | omega | (simp; done) | (simp; omega)) _) | (refine Below.drew ?_) | (refine Below.drewN ?_ _) | (refine Below.next (by assumption) ?_ (by first | omega | (simp; done) | (simp; omega))))))) hl).mono ?_; rintro e w' ⟨he, hq⟩; rw [H1.out] at he; subst he; obtain ⟨hz, hc, hf⟩ := bel hq; (try simp at hz); (try simp at hz); (try have gz1 : w.heap.size < w'.heap.size := by omega); (try have gz2 : w.heap.size + 1 < w'.heap.size := by omega); (try have gz3 : wr.heap.size < w'.heap.size := by omega))
    go_ret2
    exact ⟨ret_pair H0.out.2.symm H0.out.1.symm, by (repeat (first | exact Below.refl _ _ | assumption | (refine Below.alloc ?_ (by first | omega | (simp; done) | (simp; omega)) _) | (refine Below.setCell ?_ (by first | omega | (simp; done) | (simp; omega)) _) | (refine Below.drew ?_) | (refine Below.drewN ?_ _) | (refine Below.next (by assumption) ?_ (by first | omega | (simp; done) | (simp; omega)))))⟩
  by_cases h2 : L.length = 0
  · have H0 := Lib.hid (loOk_no (p := p) (s := s) (L := L) (.inr h2))
    have h3 : ((L.length : Int) == 0) = true := by simpa using h2
    clear h1 h2
    go_enter Tryz.func12, Tryz.ntmps12
    go_wp2_with (go_at_call 16; refine (IsSheet_any p s _ _ L _ (hm.below (by (repeat (first | exact Below.refl _ _ | assumption | (refine Below.alloc ?_ (by first | omega | (simp; done) | (simp; omega)) _) | (refine Below.setCell ?_ (by first | omega | (simp; done) | (simp; omega)) _) | (refine Below.drew ?_) | (refine Below.drewN ?_ _) | (refine Below.next (by assumption) ?_ (by first | omega | (simp; done) | (simp; omega))))))) hl).mono ?_; rintro e w' ⟨he, hq⟩; rw [H1.out] at he; subst he; obtain ⟨hz, hc, hf⟩ := bel hq; (try simp at hz); (try simp at hz); (try have gz1 : w.heap.size < w'.heap.size := by omega); (try have gz2 : w.heap.size + 1 < w'.heap.size := by omega); (try have gz3 : wr.heap.size < w'.heap.size := by omega))
    go_ret2
    exact ⟨ret_pair H0.out.2.symm H0.out.1.symm, by (repeat (first | exact Below.refl _ _ | assumption | (refine Below.alloc ?_ (by first | omega | (simp; done) | (simp; omega)) _) | (refine Below.setCell ?_ (by first | omega | (simp; done) | (simp; omega)) _) | (refine Below.drew ?_) | (refine Below.drewN ?_ _) | (refine Below.next (by assumption) ?_ (by first | omega | (simp; done) | (simp; omega)))))⟩
  have h3 : ((L.length : Int) == 0) = false := by simpa using h2
  have hok : loOk p s L = true := by simp [loOk, h1]; omega
  have HV : Hid (loV p s L = ((loTo (msq s L) L.length).1 : Int) ∧ loOk p s L = true) := Lib.hid ⟨by simp [loV, hok], hok⟩
  obtain ⟨g1, g2, g3, g4⟩ := shOk_iff.1 h1
  have HS := Lib.hid g2
  have HR := Lib.hid g4
  have HM := Lib.hid (mvs_len s L)
  clear h1 g1 g2 g4 hok
  go_enter Tryz.func12, Tryz.ntmps12
  go_wp2_with (go_at_call 16; refine (IsSheet_any p s _ _ L _ (hm.below (by (repeat (first | exact Below.refl _ _ | assumption | (refine Below.alloc ?_ (by first | omega | (simp; done) | (simp; omega)) _) | (refine Below.setCell ?_ (by first | omega | (simp; done) | (simp; omega)) _) | (refine Below.drew ?_) | (refine Below.drewN ?_ _) | (refine Below.next (by assumption) ?_ (by first | omega | (simp; done) | (simp; omega))))))) hl).mono ?_; rintro e w' ⟨he, hq⟩; rw [H1.out] at he; subst he; obtain ⟨hz, hc, hf⟩ := bel hq; (try simp at hz); (try simp at hz); (try have gz1 : w.heap.size < w'.heap.size := by omega); (try have gz2 : w.heap.size + 1 < w'.heap.size := by omega); (try have gz3 : wr.heap.size < w'.heap.size := by omega))
  refine (sheetMoves_any p s _ _ L _ (hm.below (by (repeat (first | exact Below.refl _ _ | assumption | (refine Below.alloc ?_ (by first | omega | (simp; done) | (simp; omega)) _) | (refine Below.setCell ?_ (by first | omega | (simp; done) | (simp; omega)) _) | (refine Below.drew ?_) | (refine Below.drewN ?_ _) | (refine Below.next (by assumption) ?_ (by first | omega | (simp; done) | (simp; omega))))))) hl).mono ?_
  rintro e w1 ⟨A1, c1, rfl, ho, hq1⟩
  have hb1 : Below w.heap.size w w1 := by (repeat (first | exact Below.refl _ _ | assumption | (refine Below.alloc ?_ (by first | omega | (simp; done) | (simp; omega)) _) | (refine Below.setCell ?_ (by first | omega | (simp; done) | (simp; omega)) _) | (refine Below.drew ?_) | (refine Below.drewN ?_ _) | (refine Below.next (by assumption) ?_ (by first | omega | (simp; done) | (simp; omega)))))
  rw [HM.out] at ho ⊢
  have HO := Lib.hid ho
  clear hq hz hc hf hq1 ho
  go_wp2_with fail
  go_loopw [4, 5, 6, 7, 8, 21] (fun bs ms _ _ _ i wr => ∃ (k n : Nat) (m : Int), k ≤ L.length ∧ n ≤ 8 ∧ -1 ≤ m ∧ m ≤ 2089984 ∧ i = .int .i64 k ∧ bs = .int .i64 n ∧ ms = .int .i64 m ∧ Below w1.heap.size w1 wr ∧ Hid (loTo (msq s L) k = (n, m))) (fun _ _ _ _ _ i _ => L.length - (intOf i).toNat)
  case atStart => exact ⟨0, 0, -1, by omega, by omega, by omega, by omega, rfl, rfl, rfl, Below.refl _ _, Lib.hid rfl⟩
  case round =>
    obtain ⟨k, n, m, hk, hn, hm1, hm2, rfl, rfl, rfl, hb, H⟩ := hrel
    have hb2 := Below.next hb hb1 hb1.size
    have hsz := hb2.size
    have hsz1 := hb.size
    by_cases hlt : k < L.length
    · obtain ⟨u, hu⟩ := some_of_lt (L := mvs s L) (k := k) (by rw [HM.out]; exact hlt)
      obtain ⟨b, off, rfl, e1, e2, e3, e4, e5⟩ := ((Mem.of_own HO.out).below hb).move hu
      have hug := isMv_iff.1 (mvs_ok HS.out HR.out hu)
      have hbd := sq_bd hug.1 hug.2.1
      have HST := Lib.hid (loTo_succ H.out (msq_at hu))
      obtain ⟨hu1, hu2, hu3, hu4⟩ := hug
      have HU1 := Lib.hid hu1
      have HU2 := Lib.hid hu2
      clear hu hu1 hu2
      by_cases hcmp : m < sq u.f u.t
      all_goals
        go_wp2_with (go_at_call 34; refine (squareOf_any u.f u.t HU1.out HU2.out _).mono ?_; rintro e w' ⟨rfl, o1, o2, rfl⟩)
        go_roundw
        case rel => first
          | exact ⟨k + 1, k, sq u.f u.t, by omega, by omega, by omega, by omega, by go_num, rfl, rfl, by (repeat (first | exact Below.refl _ _ | assumption | (refine Below.alloc ?_ (by first | omega | (simp; done) | (simp; omega)) _) | (refine Below.setCell ?_ (by first | omega | (simp; done) | (simp; omega)) _) | (refine Below.drew ?_) | (refine Below.drewN ?_ _) | (refine Below.next (by assumption) ?_ (by first | omega | (simp; done) | (simp; omega))))), Lib.hid (by rw [HST.out, if_pos (by omega)])⟩
          | exact ⟨k + 1, n, m, by omega, by omega, by omega, by omega, by go_num, rfl, rfl, by (repeat (first | exact Below.refl _ _ | assumption | (refine Below.alloc ?_ (by first | omega | (simp; done) | (simp; omega)) _) | (refine Below.setCell ?_ (by first | omega | (simp; done) | (simp; omega)) _) | (refine Below.drew ?_) | (refine Below.drewN ?_ _) | (refine Below.next (by assumption) ?_ (by first | omega | (simp; done) | (simp; omega))))), Lib.hid (by rw [HST.out, if_neg (by omega)])⟩
        case measure => simp [intOf]; omega
    · go_wp2
      go_ret2
      have e1 : k = L.length := by omega
      subst e1
      exact ⟨ret_pair (by rw [HV.out.1, H.out]) HV.out.2.symm, hb2⟩
set_option maxHeartbeats 1600000 in
set_option maxRecDepth 100000 in
theorem impl_LeadsTo_any (p : Int) (s : Sp) (A : Option Addr) (c : Nat) (L : List Rw) (w : World) (hm : Mem w A (rows L)) (hl : L.length ≤ 1048576) : Calls Tryz.prog 18 #[.agg #[.int .i64 p, .int .i64 s.x, .int .i64 s.y, .slice A L.length c]] w (RetSp w (ldV p s L) (shOk p s L)) := by
  have hcall := IsSheet_any p s A c L ((w.alloc (.cells #[.int .i64 p, .int .i64 s.x, .int .i64 s.y, .slice A L.length c] 28)).alloc (.cells #[.int .i64 0, .int .i64 0] 25)) (hm.below (by (repeat (first | exact Below.refl _ _ | assumption | (refine Below.alloc ?_ (by first | omega | (simp; done) | (simp; omega)) _) | (refine Below.setCell ?_ (by first | omega | (simp; done) | (simp; omega)) _) | (refine Below.drew ?_) | (refine Below.drewN ?_ _) | (refine Below.next (by assumption) ?_ (by first | omega | (simp; done) | (simp; omega))))))) hl
  cases h1 : shOk p s L
  all_goals have H1 := Lib.hid h1
  all_goals
    go_enter Tryz.func18, Tryz.ntmps18
    go_wp2_with fail
    refine hcall.mono ?_
    rintro e w1 ⟨he, hq⟩
    rw [H1.out] at he
    subst he
    have q0 : w1.cell? ⟨w.heap.size, 0, none⟩ = some (.int .i64 p) := (hq.cell (by simp; omega)).trans (by simp [go_sem])
    have q1 : w1.cell? ⟨w.heap.size, 1, none⟩ = some (.int .i64 s.x) := (hq.cell (by simp; omega)).trans (by simp [go_sem])
    have q2 : w1.cell? ⟨w.heap.size, 2, none⟩ = some (.int .i64 s.y) := (hq.cell (by simp; omega)).trans (by simp [go_sem])
    have q3 : w1.cell? ⟨w.heap.size, 3, none⟩ = some (.slice A L.length c) := (hq.cell (by simp; omega)).trans (by simp [go_sem])
    have r0 : w1.cell? ⟨w.heap.size + 1, 0, none⟩ = some (.int .i64 0) := (hq.cell (by simp)).trans (by simp [go_sem])
    have r1 : w1.cell? ⟨w.heap.size + 1, 1, none⟩ = some (.int .i64 0) := (hq.cell (by simp)).trans (by simp [go_sem])
    have f0 : w1.frozen? ⟨w.heap.size + 1, 0, none⟩ = false := (hq.frozen (by simp)).trans (by simp [go_sem])
    have f1 : w1.frozen? ⟨w.heap.size + 1, 1, none⟩ = false := (hq.frozen (by simp)).trans (by simp [go_sem])
    have hb : Below w.heap.size w w1 := by (repeat (first | exact Below.refl _ _ | assumption | (refine Below.alloc ?_ (by first | omega | (simp; done) | (simp; omega)) _) | (refine Below.setCell ?_ (by first | omega | (simp; done) | (simp; omega)) _) | (refine Below.drew ?_) | (refine Below.drewN ?_ _) | (refine Below.next (by assumption) ?_ (by first | omega | (simp; done) | (simp; omega)))))
    have hsz := hb.size
    clear hq hcall
  · clear h1
    go_wp2
    exact bodyPost_ret (v := .tuple #[.agg #[.int .i64 0, .int .i64 0], .bool false]) (by simp [results, Tryz.results18, go_sem, r0, r1]) rfl (RetSp.mk (u := ⟨0, 0⟩) (by simp [ldV, H1.out]) rfl (by (repeat (first | exact Below.refl _ _ | assumption | (refine Below.alloc ?_ (by first | omega | (simp; done) | (simp; omega)) _) | (refine Below.setCell ?_ (by first | omega | (simp; done) | (simp; omega)) _) | (refine Below.drew ?_) | (refine Below.drewN ?_ _) | (refine Below.next (by assumption) ?_ (by first | omega | (simp; done) | (simp; omega)))))))
  · by_cases h2 : L.length = 0
    · have h3 : ((L.length : Int) == 0) = true := by simpa using h2
      have H2 := Lib.hid h2
      clear h1 h2
      go_wp2
      exact bodyPost_ret (v := .tuple #[.agg #[.int .i64 s.x, .int .i64 s.y], .bool true]) (by simp [results, Tryz.results18, go_sem, r0, r1]) rfl (RetSp.mk (ldV_first H1.out H2.out) rfl (by (repeat (first | exact Below.refl _ _ | assumption | (refine Below.alloc ?_ (by first | omega | (simp; done) | (simp; omega)) _) | (refine Below.setCell ?_ (by first | omega | (simp; done) | (simp; omega)) _) | (refine Below.drew ?_) | (refine Below.drewN ?_ _) | (refine Below.next (by assumption) ?_ (by first | omega | (simp; done) | (simp; omega)))))))
    · have h3 : ((L.length : Int) == 0) = false := by simpa using h2
      have h4 : 0 < L.length := by omega
      obtain ⟨r, hr⟩ := some_of_lt (L := L) (k := L.length - 1) (by omega)
      obtain ⟨b, off, rfl, e1, e2, e3⟩ := (hm.below hb).row hr
      have HR := Lib.hid hr
      clear h1 h2 hr
      go_wp2
      exact bodyPost_ret (v := .tuple #[.agg #[.int .i64 r.t.x, .int .i64 r.t.y], .bool true]) (by simp [results, Tryz.results18, go_sem, r0, r1]) rfl (RetSp.mk (ldV_last H1.out HR.out) rfl (by (repeat (first | exact Below.refl _ _ | assumption | (refine Below.alloc ?_ (by first | omega | (simp; done) | (simp; omega)) _) | (refine Below.setCell ?_ (by first | omega | (simp; done) | (simp; omega)) _) | (refine Below.drew ?_) | (refine Below.drewN ?_ _) | (refine Below.next (by assumption) ?_ (by first | omega | (simp; done) | (simp; omega)))))))
set_option maxRecDepth 100000 in
set_option maxHeartbeats 3200000 in
theorem spec_SameWays_any (p : Int) (s : Sp) (A : Option Addr) (c : Nat) (L : List Rw) (q : Int) (t : Sp) (B : Option Addr) (d : Nat) (M : List Rw) (w : World) (hm : Mem w A (rows L)) (hn : Mem w B (rows M)) (hl : L.length ≤ 1048576) (hl2 : M.length ≤ 1048576) :
    Calls Tryz.prog 25 #[.agg #[.int .i64 p, .int .i64 s.x, .int .i64 s.y, .slice A L.length c], .agg #[.int .i64 q, .int .i64 t.x, .int .i64 t.y, .slice B M.length d]] w fun e w' => e = .returned (.tuple #[.int .i64 (swV p q s t L M), .bool (swOk p q s t L M)]) ∧ Below w.heap.size w w' := by
  have hcall := shGood_any p s A c L ((w.alloc (.cells #[.int .i64 p, .int .i64 s.x, .int .i64 s.y, .slice A L.length c] 28)).alloc (.cells #[.int .i64 q, .int .i64 t.x, .int .i64 t.y, .slice B M.length d] 28)) (hm.below (by (repeat (first | exact Below.refl _ _ | assumption | (refine Below.alloc ?_ (by first | omega | (simp; done) | (simp; omega)) _) | (refine Below.setCell ?_ (by first | omega | (simp; done) | (simp; omega)) _) | (refine Below.drew ?_) | (refine Below.drewN ?_ _) | (refine Below.next (by assumption) ?_ (by first | omega | (simp; done) | (simp; omega))))))) hl
  cases h1 : shOk p s L
  all_goals have H1 := Lib.hid h1
  all_goals
    go_enter Tryz.func25, Tryz.ntmps25
    go_wp2_with fail
    refine hcall.mono ?_
    rintro e w1 ⟨he, hq1⟩
    rw [H1.out] at he
    subst he
    have hz1 := hq1.size
    simp at hz1
    have gz1 : w.heap.size < w1.heap.size := by omega
    have gz2 : w.heap.size + 1 < w1.heap.size := by omega
    have a1_0 : w1.cell? ⟨w.heap.size, 0, none⟩ = some (.int .i64 p) := (hq1.cell (by simp; omega)).trans (by simp [go_sem])
    have a1_1 : w1.cell? ⟨w.heap.size, 1, none⟩ = some (.int .i64 s.x) := (hq1.cell (by simp; omega)).trans (by simp [go_sem])
    have a1_2 : w1.cell? ⟨w.heap.size, 2, none⟩ = some (.int .i64 s.y) := (hq1.cell (by simp; omega)).trans (by simp [go_sem])
    have a1_3 : w1.cell? ⟨w.heap.size, 3, none⟩ = some (.slice A L.length c) := (hq1.cell (by simp; omega)).trans (by simp [go_sem])
    have b1_0 : w1.cell? ⟨w.heap.size + 1, 0, none⟩ = some (.int .i64 q) := (hq1.cell (by simp)).trans (by simp [go_sem])
    have b1_1 : w1.cell? ⟨w.heap.size + 1, 1, none⟩ = some (.int .i64 t.x) := (hq1.cell (by simp)).trans (by simp [go_sem])
    have b1_2 : w1.cell? ⟨w.heap.size + 1, 2, none⟩ = some (.int .i64 t.y) := (hq1.cell (by simp)).trans (by simp [go_sem])
    have b1_3 : w1.cell? ⟨w.heap.size + 1, 3, none⟩ = some (.slice B M.length d) := (hq1.cell (by simp)).trans (by simp [go_sem])
    have hb1 : Below w.heap.size w w1 := by (repeat (first | exact Below.refl _ _ | assumption | (refine Below.alloc ?_ (by first | omega | (simp; done) | (simp; omega)) _) | (refine Below.setCell ?_ (by first | omega | (simp; done) | (simp; omega)) _) | (refine Below.drew ?_) | (refine Below.drewN ?_ _) | (refine Below.next (by assumption) ?_ (by first | omega | (simp; done) | (simp; omega)))))
    clear hq1 hcall
  · have H0 := Lib.hid (show swOk p q s t L M = false by simp [swOk, h1])
    clear h1
    go_wp2
    go_ret2
    exact ⟨ret_pair (by simp [swV, H0.out]) H0.out.symm, by (repeat (first | exact Below.refl _ _ | assumption | (refine Below.alloc ?_ (by first | omega | (simp; done) | (simp; omega)) _) | (refine Below.setCell ?_ (by first | omega | (simp; done) | (simp; omega)) _) | (refine Below.drew ?_) | (refine Below.drewN ?_ _) | (refine Below.next (by assumption) ?_ (by first | omega | (simp; done) | (simp; omega)))))⟩
  clear h1
  have hcall2 := shGood_any q t B d M w1 (hn.below (by (repeat (first | exact Below.refl _ _ | assumption | (refine Below.alloc ?_ (by first | omega | (simp; done) | (simp; omega)) _) | (refine Below.setCell ?_ (by first | omega | (simp; done) | (simp; omega)) _) | (refine Below.drew ?_) | (refine Below.drewN ?_ _) | (refine Below.next (by assumption) ?_ (by first | omega | (simp; done) | (simp; omega))))))) hl2
  cases h2 : shOk q t M
  all_goals have H2 := Lib.hid h2
  all_goals
    go_wp2_with fail
    refine hcall2.mono ?_
    rintro e w2 ⟨he, hq2⟩
    rw [H2.out] at he
    subst he
    have hz2 := hq2.size
    have a2_0 : w2.cell? ⟨w.heap.size, 0, none⟩ = some (.int .i64 p) := (hq2.cell (by simp; omega)).trans (a1_0)
    have a2_1 : w2.cell? ⟨w.heap.size, 1, none⟩ = some (.int .i64 s.x) := (hq2.cell (by simp; omega)).trans (a1_1)
    have a2_2 : w2.cell? ⟨w.heap.size, 2, none⟩ = some (.int .i64 s.y) := (hq2.cell (by simp; omega)).trans (a1_2)
    have a2_3 : w2.cell? ⟨w.heap.size, 3, none⟩ = some (.slice A L.length c) := (hq2.cell (by simp; omega)).trans (a1_3)
    have b2_0 : w2.cell? ⟨w.heap.size + 1, 0, none⟩ = some (.int .i64 q) := (hq2.cell (by simp; omega)).trans (b1_0)
    have b2_1 : w2.cell? ⟨w.heap.size + 1, 1, none⟩ = some (.int .i64 t.x) := (hq2.cell (by simp; omega)).trans (b1_1)
    have b2_2 : w2.cell? ⟨w.heap.size + 1, 2, none⟩ = some (.int .i64 t.y) := (hq2.cell (by simp; omega)).trans (b1_2)
    have b2_3 : w2.cell? ⟨w.heap.size + 1, 3, none⟩ = some (.slice B M.length d) := (hq2.cell (by simp; omega)).trans (b1_3)
    have hb2 : Below w.heap.size w w2 := by (repeat (first | exact Below.refl _ _ | assumption | (refine Below.alloc ?_ (by first | omega | (simp; done) | (simp; omega)) _) | (refine Below.setCell ?_ (by first | omega | (simp; done) | (simp; omega)) _) | (refine Below.drew ?_) | (refine Below.drewN ?_ _) | (refine Below.next (by assumption) ?_ (by first | omega | (simp; done) | (simp; omega)))))
    have hsz := hb2.size
    clear hq2 hcall2 hb1 hz1 gz1 gz2 a1_0 a1_1 a1_2 a1_3 b1_0 b1_1 b1_2 b1_3
  · have H0 := Lib.hid (show swOk p q s t L M = false by simp [swOk, h2])
    clear h2
    go_wp2
    go_ret2
    exact ⟨ret_pair (by simp [swV, H0.out]) H0.out.symm, by (repeat (first | exact Below.refl _ _ | assumption | (refine Below.alloc ?_ (by first | omega | (simp; done) | (simp; omega)) _) | (refine Below.setCell ?_ (by first | omega | (simp; done) | (simp; omega)) _) | (refine Below.drew ?_) | (refine Below.drewN ?_ _) | (refine Below.next (by assumption) ?_ (by first | omega | (simp; done) | (simp; omega)))))⟩
  clear h2
  by_cases h3 : s = t
  case neg =>
    have H0 := Lib.hid (show swOk p q s t L M = false by simp [swOk, h3])
    rcases sp_neq h3 with e1 | ⟨e1, e2⟩
    all_goals
      clear h3
      go_wp2
      go_ret2
      exact ⟨ret_pair (by simp [swV, H0.out]) H0.out.symm, by (repeat (first | exact Below.refl _ _ | assumption | (refine Below.alloc ?_ (by first | omega | (simp; done) | (simp; omega)) _) | (refine Below.setCell ?_ (by first | omega | (simp; done) | (simp; omega)) _) | (refine Below.drew ?_) | (refine Below.drewN ?_ _) | (refine Below.next (by assumption) ?_ (by first | omega | (simp; done) | (simp; omega)))))⟩
  subst h3
  have H0 := Lib.hid (show swOk p q s s L M = true by simp [swOk, H1.out, H2.out])
  go_wp2
  go_loopw [6] (fun n wr => ∃ k : Nat, k ≤ L.length ∧ k ≤ M.length ∧ n = .int .i64 k ∧ (∃ j, wr = w2.drewN j) ∧ Hid (L.take k = M.take k)) (fun n _ => L.length - (intOf n).toNat)
  case atStart => exact ⟨0, by omega, by omega, rfl, ⟨0, rfl⟩, Lib.hid rfl⟩
  case round =>
    obtain ⟨k, hk, hk2, rfl, ⟨j, rfl⟩, H⟩ := hrel
    have hbj : Below w.heap.size w (w2.drewN j) := Below.drewN hb2 j
    by_cases hlt : k < L.length
    case neg =>
      have e1 : decide (k < L.length) = false := by simpa using hlt
      have HK := Lib.hid (cpl_eq H.out hk hk2 (.inl (by omega)))
      clear hlt
      go_wp2
      go_quiet (fail)
      go_wp2
      go_ret2
      exact ⟨ret_pair (by simp [swV, H0.out, HK.out]) H0.out.symm, by (repeat (first | exact Below.refl _ _ | assumption | (refine Below.alloc ?_ (by first | omega | (simp; done) | (simp; omega)) _) | (refine Below.setCell ?_ (by first | omega | (simp; done) | (simp; omega)) _) | (refine Below.drew ?_) | (refine Below.drewN ?_ _) | (refine Below.next (by assumption) ?_ (by first | omega | (simp; done) | (simp; omega)))))⟩
    by_cases hlt2 : k < M.length
    case neg =>
      have e1 : decide (k < M.length) = false := by simpa using hlt2
      have HK := Lib.hid (cpl_eq H.out hk hk2 (.inr (.inl (by omega))))
      clear hlt2
      go_wp2
      go_quiet (fail)
      go_wp2
      go_ret2
      exact ⟨ret_pair (by simp [swV, H0.out, HK.out]) H0.out.symm, by (repeat (first | exact Below.refl _ _ | assumption | (refine Below.alloc ?_ (by first | omega | (simp; done) | (simp; omega)) _) | (refine Below.setCell ?_ (by first | omega | (simp; done) | (simp; omega)) _) | (refine Below.drew ?_) | (refine Below.drewN ?_ _) | (refine Below.next (by assumption) ?_ (by first | omega | (simp; done) | (simp; omega)))))⟩
    obtain ⟨r, hr⟩ := some_of_lt hlt
    obtain ⟨u, hu⟩ := some_of_lt hlt2
    obtain ⟨b, off, rfl, x1, x2, x3⟩ := (hm.below hb2).row hr
    obtain ⟨b2, off2, rfl, y1, y2, y3⟩ := (hn.below hb2).row hu
    have k0 : (0 : Int) ≤ (k : Int) := by omega
    have k1 : (k : Int) < (L.length : Int) := by omega
    have k2 : (k : Int) < (M.length : Int) := by omega
    by_cases hru : r = u
    · subst hru
      have HST := Lib.hid (show L.take (k + 1) = M.take (k + 1) by rw [List.take_add_one, List.take_add_one, H.out, hr, hu])
      clear hr hu
      go_wp2
      go_quiet (fail)
      go_wp2
      go_roundw
      case rel => exact ⟨k + 1, by omega, by omega, by go_num, ⟨_, rfl⟩, HST⟩
      case measure => simp [intOf]; omega
    · have HK := Lib.hid (cpl_eq H.out hk hk2 (.inr (.inr ⟨r, u, hr, hu, hru⟩)))
      rcases rw_neq hru with e1 | ⟨e1, e2⟩ | ⟨e1, e2, e3⟩
      all_goals
        clear hr hu hru
        go_wp2
        go_quiet (fail)
        go_wp2
        go_ret2
        exact ⟨ret_pair (by simp [swV, H0.out, HK.out]) H0.out.symm, by (repeat (first | exact Below.refl _ _ | assumption | (refine Below.alloc ?_ (by first | omega | (simp; done) | (simp; omega)) _) | (refine Below.setCell ?_ (by first | omega | (simp; done) | (simp; omega)) _) | (refine Below.drew ?_) | (refine Below.drewN ?_ _) | (refine Below.next (by assumption) ?_ (by first | omega | (simp; done) | (simp; omega)))))⟩
set_option maxRecDepth 100000 in
set_option maxHeartbeats 3200000 in
theorem impl_SameWays_any (p : Int) (s : Sp) (A : Option Addr) (c : Nat) (L : List Rw) (q : Int) (t : Sp) (B : Option Addr) (d : Nat) (M : List Rw) (w : World) (hm : Mem w A (rows L)) (hn : Mem w B (rows M)) (hl : L.length ≤ 1048576) (hl2 : M.length ≤ 1048576) :
    Calls Tryz.prog 24 #[.agg #[.int .i64 p, .int .i64 s.x, .int .i64 s.y, .slice A L.length c], .agg #[.int .i64 q, .int .i64 t.x, .int .i64 t.y, .slice B M.length d]] w fun e w' => e = .returned (.tuple #[.int .i64 (swV p q s t L M), .bool (swOk p q s t L M)]) ∧ Below w.heap.size w w' := by
  have hcall := IsSheet_any p s A c L ((w.alloc (.cells #[.int .i64 p, .int .i64 s.x, .int .i64 s.y, .slice A L.length c] 28)).alloc (.cells #[.int .i64 q, .int .i64 t.x, .int .i64 t.y, .slice B M.length d] 28)) (hm.below (by (repeat (first | exact Below.refl _ _ | assumption | (refine Below.alloc ?_ (by first | omega | (simp; done) | (simp; omega)) _) | (refine Below.setCell ?_ (by first | omega | (simp; done) | (simp; omega)) _) | (refine Below.drew ?_) | (refine Below.drewN ?_ _) | (refine Below.next (by assumption) ?_ (by first | omega | (simp; done) | (simp; omega))))))) hl
  cases h1 : shOk p s L
  all_goals have H1 := Lib.hid h1
  all_goals
    go_enter Tryz.func24, Tryz.ntmps24
    go_wp2_with fail
    refine hcall.mono ?_
    rintro e w1 ⟨he, hq1⟩
    rw [H1.out] at he
    subst he
    have hz1 := hq1.size
    simp at hz1
    have gz1 : w.heap.size < w1.heap.size := by omega
    have gz2 : w.heap.size + 1 < w1.heap.size := by omega
    have a1_0 : w1.cell? ⟨w.heap.size, 0, none⟩ = some (.int .i64 p) := (hq1.cell (by simp; omega)).trans (by simp [go_sem])
    have a1_1 : w1.cell? ⟨w.heap.size, 1, none⟩ = some (.int .i64 s.x) := (hq1.cell (by simp; omega)).trans (by simp [go_sem])
    have a1_2 : w1.cell? ⟨w.heap.size, 2, none⟩ = some (.int .i64 s.y) := (hq1.cell (by simp; omega)).trans (by simp [go_sem])
    have a1_3 : w1.cell? ⟨w.heap.size, 3, none⟩ = some (.slice A L.length c) := (hq1.cell (by simp; omega)).trans (by simp [go_sem])
    have b1_0 : w1.cell? ⟨w.heap.size + 1, 0, none⟩ = some (.int .i64 q) := (hq1.cell (by simp)).trans (by simp [go_sem])
    have b1_1 : w1.cell? ⟨w.heap.size + 1, 1, none⟩ = some (.int .i64 t.x) := (hq1.cell (by simp)).trans (by simp [go_sem])
    have b1_2 : w1.cell? ⟨w.heap.size + 1, 2, none⟩ = some (.int .i64 t.y) := (hq1.cell (by simp)).trans (by simp [go_sem])
    have b1_3 : w1.cell? ⟨w.heap.size + 1, 3, none⟩ = some (.slice B M.length d) := (hq1.cell (by simp)).trans (by simp [go_sem])
    have hb1 : Below w.heap.size w w1 := by (repeat (first | exact Below.refl _ _ | assumption | (refine Below.alloc ?_ (by first | omega | (simp; done) | (simp; omega)) _) | (refine Below.setCell ?_ (by first | omega | (simp; done) | (simp; omega)) _) | (refine Below.drew ?_) | (refine Below.drewN ?_ _) | (refine Below.next (by assumption) ?_ (by first | omega | (simp; done) | (simp; omega)))))
    clear hq1 hcall
  · have H0 := Lib.hid (show swOk p q s t L M = false by simp [swOk, h1])
    clear h1
    go_wp2
    go_ret2
    exact ⟨ret_pair (by simp [swV, H0.out]) H0.out.symm, by (repeat (first | exact Below.refl _ _ | assumption | (refine Below.alloc ?_ (by first | omega | (simp; done) | (simp; omega)) _) | (refine Below.setCell ?_ (by first | omega | (simp; done) | (simp; omega)) _) | (refine Below.drew ?_) | (refine Below.drewN ?_ _) | (refine Below.next (by assumption) ?_ (by first | omega | (simp; done) | (simp; omega)))))⟩
  clear h1
  have hcall2 := IsSheet_any q t B d M w1 (hn.below (by (repeat (first | exact Below.refl _ _ | assumption | (refine Below.alloc ?_ (by first | omega | (simp; done) | (simp; omega)) _) | (refine Below.setCell ?_ (by first | omega | (simp; done) | (simp; omega)) _) | (refine Below.drew ?_) | (refine Below.drewN ?_ _) | (refine Below.next (by assumption) ?_ (by first | omega | (simp; done) | (simp; omega))))))) hl2
  cases h2 : shOk q t M
  all_goals have H2 := Lib.hid h2
  all_goals
    go_wp2_with fail
    refine hcall2.mono ?_
    rintro e w2 ⟨he, hq2⟩
    rw [H2.out] at he
    subst he
    have hz2 := hq2.size
    have a2_0 : w2.cell? ⟨w.heap.size, 0, none⟩ = some (.int .i64 p) := (hq2.cell (by simp; omega)).trans (a1_0)
    have a2_1 : w2.cell? ⟨w.heap.size, 1, none⟩ = some (.int .i64 s.x) := (hq2.cell (by simp; omega)).trans (a1_1)
    have a2_2 : w2.cell? ⟨w.heap.size, 2, none⟩ = some (.int .i64 s.y) := (hq2.cell (by simp; omega)).trans (a1_2)
    have a2_3 : w2.cell? ⟨w.heap.size, 3, none⟩ = some (.slice A L.length c) := (hq2.cell (by simp; omega)).trans (a1_3)
    have b2_0 : w2.cell? ⟨w.heap.size + 1, 0, none⟩ = some (.int .i64 q) := (hq2.cell (by simp; omega)).trans (b1_0)
    have b2_1 : w2.cell? ⟨w.heap.size + 1, 1, none⟩ = some (.int .i64 t.x) := (hq2.cell (by simp; omega)).trans (b1_1)
    have b2_2 : w2.cell? ⟨w.heap.size + 1, 2, none⟩ = some (.int .i64 t.y) := (hq2.cell (by simp; omega)).trans (b1_2)
    have b2_3 : w2.cell? ⟨w.heap.size + 1, 3, none⟩ = some (.slice B M.length d) := (hq2.cell (by simp; omega)).trans (b1_3)
    have hb2 : Below w.heap.size w w2 := by (repeat (first | exact Below.refl _ _ | assumption | (refine Below.alloc ?_ (by first | omega | (simp; done) | (simp; omega)) _) | (refine Below.setCell ?_ (by first | omega | (simp; done) | (simp; omega)) _) | (refine Below.drew ?_) | (refine Below.drewN ?_ _) | (refine Below.next (by assumption) ?_ (by first | omega | (simp; done) | (simp; omega)))))
    have hsz := hb2.size
    clear hq2 hcall2 hb1 hz1 gz1 gz2 a1_0 a1_1 a1_2 a1_3 b1_0 b1_1 b1_2 b1_3
  · have H0 := Lib.hid (show swOk p q s t L M = false by simp [swOk, h2])
    clear h2
    go_wp2
    go_ret2
    exact ⟨ret_pair (by simp [swV, H0.out]) H0.out.symm, by (repeat (first | exact Below.refl _ _ | assumption | (refine Below.alloc ?_ (by first | omega | (simp; done) | (simp; omega)) _) | (refine Below.setCell ?_ (by first | omega | (simp; done) | (simp; omega)) _) | (refine Below.drew ?_) | (refine Below.drewN ?_ _) | (refine Below.next (by assumption) ?_ (by first | omega | (simp; done) | (simp; omega)))))⟩
  clear h2
  by_cases h3 : s = t
  case neg =>
    have H0 := Lib.hid (show swOk p q s t L M = false by simp [swOk, h3])
    rcases sp_neq h3 with e1 | ⟨e1, e2⟩
    all_goals
      clear h3
      go_wp2
      go_ret2
      exact ⟨ret_pair (by simp [swV, H0.out]) H0.out.symm, by (repeat (first | exact Below.refl _ _ | assumption | (refine Below.alloc ?_ (by first | omega | (simp; done) | (simp; omega)) _) | (refine Below.setCell ?_ (by first | omega | (simp; done) | (simp; omega)) _) | (refine Below.drew ?_) | (refine Below.drewN ?_ _) | (refine Below.next (by assumption) ?_ (by first | omega | (simp; done) | (simp; omega)))))⟩
  subst h3
  have H0 := Lib.hid (show swOk p q s s L M = true by simp [swOk, H1.out, H2.out])
  go_wp2
  go_loopw [6] (fun n wr => ∃ k : Nat, k ≤ L.length ∧ k ≤ M.length ∧ n = .int .i64 k ∧ (∃ j, wr = w2.drewN j) ∧ Hid (L.take k = M.take k)) (fun n _ => L.length - (intOf n).toNat)
  case atStart => exact ⟨0, by omega, by omega, rfl, ⟨0, rfl⟩, Lib.hid rfl⟩
  case round =>
    obtain ⟨k, hk, hk2, rfl, ⟨j, rfl⟩, H⟩ := hrel
    have hbj : Below w.heap.size w (w2.drewN j) := Below.drewN hb2 j
    by_cases hlt : k < L.length
    case neg =>
      have e1 : decide (k < L.length) = false := by simpa using hlt
      have HK := Lib.hid (cpl_eq H.out hk hk2 (.inl (by omega)))
      clear hlt
      go_wp2
      go_quiet (fail)
      go_wp2
      go_ret2
      exact ⟨ret_pair (by simp [swV, H0.out, HK.out]) H0.out.symm, by (repeat (first | exact Below.refl _ _ | assumption | (refine Below.alloc ?_ (by first | omega | (simp; done) | (simp; omega)) _) | (refine Below.setCell ?_ (by first | omega | (simp; done) | (simp; omega)) _) | (refine Below.drew ?_) | (refine Below.drewN ?_ _) | (refine Below.next (by assumption) ?_ (by first | omega | (simp; done) | (simp; omega)))))⟩
    by_cases hlt2 : k < M.length
    case neg =>
      have e1 : decide (k < M.length) = false := by simpa using hlt2
      have HK := Lib.hid (cpl_eq H.out hk hk2 (.inr (.inl (by omega))))
      clear hlt2
      go_wp2
      go_quiet (fail)
      go_wp2
      go_ret2
      exact ⟨ret_pair (by simp [swV, H0.out, HK.out]) H0.out.symm, by (repeat (first | exact Below.refl _ _ | assumption | (refine Below.alloc ?_ (by first | omega | (simp; done) | (simp; omega)) _) | (refine Below.setCell ?_ (by first | omega | (simp; done) | (simp; omega)) _) | (refine Below.drew ?_) | (refine Below.drewN ?_ _) | (refine Below.next (by assumption) ?_ (by first | omega | (simp; done) | (simp; omega)))))⟩
    obtain ⟨r, hr⟩ := some_of_lt hlt
    obtain ⟨u, hu⟩ := some_of_lt hlt2
    obtain ⟨b, off, rfl, x1, x2, x3⟩ := (hm.below hb2).row hr
    obtain ⟨b2, off2, rfl, y1, y2, y3⟩ := (hn.below hb2).row hu
    have k0 : (0 : Int) ≤ (k : Int) := by omega
    have k1 : (k : Int) < (L.length : Int) := by omega
    have k2 : (k : Int) < (M.length : Int) := by omega
    by_cases hru : r = u
    · subst hru
      have HST := Lib.hid (show L.take (k + 1) = M.take (k + 1) by rw [List.take_add_one, List.take_add_one, H.out, hr, hu])
      clear hr hu
      go_wp2
      go_quiet (fail)
      go_wp2
      go_roundw
      case rel => exact ⟨k + 1, by omega, by omega, by go_num, ⟨_, rfl⟩, HST⟩
      case measure => simp [intOf]; omega
    · have HK := Lib.hid (cpl_eq H.out hk hk2 (.inr (.inr ⟨r, u, hr, hu, hru⟩)))
      rcases rw_neq hru with e1 | ⟨e1, e2⟩ | ⟨e1, e2, e3⟩
      all_goals
        clear hr hu hru
        go_wp2
        go_quiet (fail)
        go_wp2
        go_ret2
        exact ⟨ret_pair (by simp [swV, H0.out, HK.out]) H0.out.symm, by (repeat (first | exact Below.refl _ _ | assumption | (refine Below.alloc ?_ (by first | omega | (simp; done) | (simp; omega)) _) | (refine Below.setCell ?_ (by first | omega | (simp; done) | (simp; omega)) _) | (refine Below.drew ?_) | (refine Below.drewN ?_ _) | (refine Below.next (by assumption) ?_ (by first | omega | (simp; done) | (simp; omega)))))⟩
end Go.Proofs.YtdmgffcabjpihaaGreatDoor
