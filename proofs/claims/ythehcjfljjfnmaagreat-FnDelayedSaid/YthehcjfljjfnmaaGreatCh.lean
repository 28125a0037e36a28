/-
  Contracts: whether a list holds a number or a spot, and where; increasing lists; charts.
-/
import Derived.Test.YthehcjfljjfnmaaGreatBase
import Derived.Deep.QuietTactic
import Derived.BigQuiet
import Derived.Laws.StructEq
import Derived.Lib.QuietBelow
namespace Go.Proofs.YthehcjfljjfnmaaGreat
open Go.RowKit Go.Sort

/-- The first place of a thing in a list, or -1. -/
def idx {α : Type} [BEq α] : List α → α → Int
  | [], _ => -1
  | x :: L, a => if x == a then 0 else if idx L a < 0 then -1 else idx L a + 1
section
variable {α : Type} [BEq α] [LawfulBEq α]
theorem idx_at : ∀ {L : List α} {k : Nat} {a : α}, has (L.take k) a = false → L[k]? = some a → idx L a = (k : Int)
  | [], k, a, _, h => by simp at h
  | x :: L, 0, a, _, h => by
    have : x = a := by simpa using h
    subst this
    simp [idx]
  | x :: L, k + 1, a, h, hk => by
    have hk' : L[k]? = some a := by simpa using hk
    simp only [List.take_succ_cons, has_cons, Bool.or_eq_false_iff] at h
    have ih := idx_at h.2 hk'
    have hx : (x == a) = false := by have h1 := h.1; rw [beq_eq_false_iff_ne] at h1 ⊢; exact fun e => h1 e.symm
    rw [idx, hx, ih]
    simp
    omega
theorem idx_none : ∀ {L : List α} {a : α}, has L a = false → idx L a = -1
  | [], a, _ => rfl
  | x :: L, a, h => by
    simp only [has_cons, Bool.or_eq_false_iff] at h
    have hx : (x == a) = false := by have h1 := h.1; rw [beq_eq_false_iff_ne] at h1 ⊢; exact fun e => h1 e.symm
    rw [idx, hx, idx_none h.2]
    rfl
theorem idx_some : ∀ {L : List α} {a : α}, has L a = true → ∃ k : Nat, idx L a = (k : Int) ∧ L[k]? = some a ∧ has (L.take k) a = false
  | [], a, h => by cases h
  | x :: L, a, h => by
    by_cases hx : x = a
    · subst hx
      exact ⟨0, by simp [idx], rfl, rfl⟩
    · have hx2 : (x == a) = false := by simpa using hx
      have hx3 : (a == x) = false := by simpa using fun e => hx e.symm
      rw [has_cons, hx3, Bool.false_or] at h
      obtain ⟨k, h1, h2, h3⟩ := idx_some h
      refine ⟨k + 1, ?_, by simpa using h2, ?_⟩
      · rw [idx, hx2, h1]; simp; omega
      · rw [List.take_succ_cons, has_cons, hx3, h3]; rfl
theorem take_no {L : List α} {k : Nat} {a x : α} (h : has (L.take k) a = false) (hk : L[k]? = some x) (hx : x ≠ a) : has (L.take (k + 1)) a = false := by
  rw [List.take_add_one, hk, Bool.eq_false_iff]
  intro hc
  rw [has_iff, List.mem_append] at hc
  rcases hc with hc | hc
  · rw [← has_iff, h] at hc; cases hc
  · simp at hc; exact hx hc.symm
theorem has_at {L : List α} {k : Nat} {a : α} (hk : L[k]? = some a) : has L a = true := by
  rw [has_iff]; exact List.mem_of_getElem? hk
theorem has_take {L : List α} {k q : Nat} {a : α} (h : L[q]? = some a) (hq : q < k) : has (L.take k) a = true := by
  rw [has_iff, List.mem_iff_getElem?]
  exact ⟨q, by rw [List.getElem?_take_of_lt hq, h]⟩
theorem idx_has {L : List α} {a : α} : decide (0 ≤ idx L a) = has L a := by
  cases h : has L a
  · rw [idx_none h]; rfl
  · obtain ⟨k, h1, _⟩ := idx_some h
    rw [h1]; simp
theorem idx_bd {L : List α} {a : α} : -1 ≤ idx L a ∧ idx L a ≤ L.length := by
  cases h : has L a
  · rw [idx_none h]; omega
  · obtain ⟨k, h1, h2, _⟩ := idx_some h
    have := (List.getElem?_eq_some_iff.1 h2).1
    rw [h1]; omega
end
theorem take_all {α : Type} [BEq α] {L : List α} {k : Nat} {a : α} (h : has (L.take k) a = false) (hk : L.length ≤ k) : has L a = false := by
  rwa [List.take_of_length_le hk] at h
theorem Mem.take {α : Type} {w : World} {A : Option Addr} {f : α → List Value} {L : List α} (h : Mem w A (L.flatMap f)) (k : Nat) : Mem w A ((L.take k).flatMap f) := fun hne => by
  have e : L.flatMap f = (L.take k).flatMap f ++ (L.drop k).flatMap f := by rw [← List.flatMap_append, List.take_append_drop]
  have hne2 : L.flatMap f ≠ [] := by
    rw [e]
    intro h0
    exact hne (List.append_eq_nil_iff.1 h0).1
  obtain ⟨b, off, ea, hc⟩ := h hne2
  refine ⟨b, off, ea, fun j u hu => hc j u ?_⟩
  rw [e, List.getElem?_append_left (List.getElem?_eq_some_iff.1 hu).1]
  exact hu

set_option maxRecDepth 100000 in
theorem l1Has_any (A : Option Addr) (c : Nat) (L : List Int) (x : Int) (w : World) (hm : Mem w A (ints L)) (hl : L.length ≤ 1048576) : Calls Tryz.prog 107 #[.slice A L.length c, .int .i64 x] w fun e w' => e = .returned (.bool (has L x)) ∧ w = w' := by
  go_enter Tryz.func107, Tryz.ntmps107
  go_wp2
  go_loop [6, 9] (fun _ i => ∃ k : Nat, k ≤ L.length ∧ i = .int .i64 k ∧ Hid (has (L.take k) x = false)) (fun _ i => L.length - (intOf i).toNat)
  case atStart => exact ⟨0, by omega, rfl, Lib.hid rfl⟩
  case round =>
    obtain ⟨k, hk, rfl, H⟩ := hrel
    by_cases hlt : k < L.length
    · obtain ⟨s, hs⟩ := some_of_lt hlt
      obtain ⟨b, off, rfl, h1⟩ := hm.int hs
      have HS := Lib.hid hs
      clear hs
      by_cases hx : s = x
      · subst hx
        go_wp2
        go_ret
        exact ⟨ret_bool (has_at HS.out).symm, rfl⟩
      · have e1 : (s == x) = false := by simpa using hx
        have hx' := Lib.hid hx
        go_wp2
        go_round
        case rel => exact ⟨k + 1, by omega, by go_num, Lib.hid (take_no H.out HS.out hx'.out)⟩
        case measure => simp [intOf]; omega
    · go_wp2
      go_ret
      exact ⟨ret_bool (take_all H.out (by omega)).symm, rfl⟩

theorem sp_ne {s x : Sp} (h : ¬ s = x) : (x.x == s.x) = false ∨ ((x.x == s.x) = true ∧ (x.y == s.y) = false) := by
  by_cases h1 : x.x = s.x
  · refine .inr ⟨by simpa using h1, ?_⟩
    rw [beq_eq_false_iff_ne]
    intro h2
    cases s; cases x
    simp_all
  · exact .inl (by simpa using h1)
set_option maxRecDepth 100000 in
theorem indexS_any (A : Option Addr) (c : Nat) (L : List Sp) (x : Sp) (w : World) (hm : Mem w A (spots L)) (hl : L.length ≤ 1048576) : Calls Tryz.prog 113 #[.slice A L.length c, .agg #[.int .i64 x.x, .int .i64 x.y]] w fun e w' => e = .returned (.int .i64 (idx L x)) ∧ Below w.heap.size w w' := by
  go_enter Tryz.func113, Tryz.ntmps113
  go_wp2
  go_loopw [5, 8] (fun _ i wr => ∃ k : Nat, k ≤ L.length ∧ i = .int .i64 k ∧ Below (w.heap.size + 1) (w.alloc (.cells #[.int .i64 x.x, .int .i64 x.y] 24)) wr ∧ Hid (has (L.take k) x = false)) (fun _ i _ => L.length - (intOf i).toNat)
  case atStart => exact ⟨0, by omega, rfl, by (repeat (first | exact Below.refl _ _ | assumption | (refine Below.alloc ?_ (by first | omega | (simp; done) | (simp; omega)) _) | (refine Below.setCell ?_ (by first | omega | (simp; done) | (simp; omega)) _) | (refine Below.drew ?_) | (refine Below.drewN ?_ _) | (refine Below.next (by assumption) ?_ (by first | omega | (simp; done) | (simp; omega))))), Lib.hid rfl⟩
  case round =>
    obtain ⟨k, hk, rfl, hbx, H⟩ := hrel
    obtain ⟨hb, hsz⟩ := boxed hbx
    by_cases hlt : k < L.length
    · obtain ⟨s, hs⟩ := some_of_lt hlt
      obtain ⟨b, off, rfl, h1, h2⟩ := (hm.below hb).spot hs
      have q1 : wr.cell? ⟨w.heap.size, 0, none⟩ = some (.int .i64 x.x) := boxed_cell hbx 0
      have q2 : wr.cell? ⟨w.heap.size, 1, none⟩ = some (.int .i64 x.y) := boxed_cell hbx 1
      have HS := Lib.hid hs
      clear hs
      by_cases hx : s = x
      · subst hx
        go_wp2
        go_quiet (fail)
        go_wp2
        go_ret
        exact ⟨ret_int (idx_at H.out HS.out).symm, by (repeat (first | exact Below.refl _ _ | assumption | (refine Below.alloc ?_ (by first | omega | (simp; done) | (simp; omega)) _) | (refine Below.setCell ?_ (by first | omega | (simp; done) | (simp; omega)) _) | (refine Below.drew ?_) | (refine Below.drewN ?_ _) | (refine Below.next (by assumption) ?_ (by first | omega | (simp; done) | (simp; omega)))))⟩
      · have hx' := Lib.hid hx
        rcases sp_ne hx with e1 | ⟨e1, e2⟩
        all_goals
          clear hx
          go_wp2
          go_quiet (fail)
          go_wp2
          go_roundw
          case rel => exact ⟨k + 1, by omega, by go_num, by (repeat (first | exact Below.refl _ _ | assumption | (refine Below.alloc ?_ (by first | omega | (simp; done) | (simp; omega)) _) | (refine Below.setCell ?_ (by first | omega | (simp; done) | (simp; omega)) _) | (refine Below.drew ?_) | (refine Below.drewN ?_ _) | (refine Below.next (by assumption) ?_ (by first | omega | (simp; done) | (simp; omega))))), Lib.hid (take_no H.out HS.out hx'.out)⟩
          case measure => simp [intOf]; omega
    · go_wp2
      go_ret
      exact ⟨ret_int (idx_none (take_all H.out (by omega))).symm, hb⟩

set_option maxRecDepth 100000 in
theorem containsS_any (A : Option Addr) (c : Nat) (L : List Sp) (x : Sp) (w : World) (hm : Mem w A (spots L)) (hl : L.length ≤ 1048576) : Calls Tryz.prog 106 #[.slice A L.length c, .agg #[.int .i64 x.x, .int .i64 x.y]] w fun e w' => e = .returned (.bool (has L x)) ∧ Below w.heap.size w w' := by
  have e := Lib.hid (idx_has (L := L) (a := x))
  have hb := idx_bd (L := L) (a := x)
  go_enter Tryz.func106, Tryz.ntmps106
  go_wp2_with (go_at_call 113; refine (indexS_any _ _ L x _ (hm.below (by (repeat (first | exact Below.refl _ _ | assumption | (refine Below.alloc ?_ (by first | omega | (simp; done) | (simp; omega)) _) | (refine Below.setCell ?_ (by first | omega | (simp; done) | (simp; omega)) _) | (refine Below.drew ?_) | (refine Below.drewN ?_ _) | (refine Below.next (by assumption) ?_ (by first | omega | (simp; done) | (simp; omega))))))) hl).mono ?_; rintro e w' ⟨rfl, hq⟩; obtain ⟨hz, hc, hf⟩ := bel hq; (try simp at hz); (try have gz1 : w.heap.size < w'.heap.size := by omega); (try have gz2 : w.heap.size + 1 < w'.heap.size := by omega); (try have gz3 : wr.heap.size < w'.heap.size := by omega))
  go_ret
  exact ⟨ret_bool e.out, by (repeat (first | exact Below.refl _ _ | assumption | (refine Below.alloc ?_ (by first | omega | (simp; done) | (simp; omega)) _) | (refine Below.setCell ?_ (by first | omega | (simp; done) | (simp; omega)) _) | (refine Below.drew ?_) | (refine Below.drewN ?_ _) | (refine Below.next (by assumption) ?_ (by first | omega | (simp; done) | (simp; omega)))))⟩

theorem containsK_any (A : Option Addr) (c : Nat) (L : List Sp) (k : Nat) (hk : k ≤ L.length) (x : Sp) (w : World) (hm : Mem w A (spots L)) (hl : L.length ≤ 1048576) : Calls Tryz.prog 106 #[.slice A k c, .agg #[.int .i64 x.x, .int .i64 x.y]] w fun e w' => e = .returned (.bool (has (L.take k) x)) ∧ Below w.heap.size w w' := by
  have e : (L.take k).length = k := by simp; omega
  have h := containsS_any A c (L.take k) x w (hm.take k) (by omega)
  rw [e] at h
  exact h

set_option maxHeartbeats 800000 in
set_option maxRecDepth 100000 in
theorem IsChart_any (A : Option Addr) (c : Nat) (L : List Sp) (w : World) (hm : Mem w A (spots L)) (hl : L.length ≤ 1048576) (hlc : L.length ≤ c) : Calls Tryz.prog 94 #[.slice A L.length c] w fun e w' => e = .returned (.bool (chOk L)) ∧ Below w.heap.size w w' := by
  cases hin : inR L.length 1 12
  · have e := Lib.hid (show chOk L = false by simp [chOk, hin])
    go_enter Tryz.func94, Tryz.ntmps94
    go_wp2_with (go_at_call 43; refine (within_any _ _ _ _).mono ?_; rintro e w' ⟨rfl, rfl⟩)
    go_ret
    exact ⟨ret_bool e.out.symm, by (repeat (first | exact Below.refl _ _ | assumption | (refine Below.alloc ?_ (by first | omega | (simp; done) | (simp; omega)) _) | (refine Below.setCell ?_ (by first | omega | (simp; done) | (simp; omega)) _) | (refine Below.drew ?_) | (refine Below.drewN ?_ _) | (refine Below.next (by assumption) ?_ (by first | omega | (simp; done) | (simp; omega)))))⟩
  have e := Lib.hid (show chOk L = chTo L L.length by simp [chOk, hin])
  go_enter Tryz.func94, Tryz.ntmps94
  go_wp2_with (go_at_call 43; refine (within_any _ _ _ _).mono ?_; rintro e w' ⟨rfl, rfl⟩)
  go_loopw [3, 4, 11] (fun _ _ i wr => ∃ k : Nat, k ≤ L.length ∧ i = .int .i64 k ∧ Below w.heap.size w wr ∧ Hid (chTo L k = true)) (fun _ _ i _ => L.length - (intOf i).toNat)
  case atStart => exact ⟨0, by omega, rfl, by (repeat (first | exact Below.refl _ _ | assumption | (refine Below.alloc ?_ (by first | omega | (simp; done) | (simp; omega)) _) | (refine Below.setCell ?_ (by first | omega | (simp; done) | (simp; omega)) _) | (refine Below.drew ?_) | (refine Below.drewN ?_ _) | (refine Below.next (by assumption) ?_ (by first | omega | (simp; done) | (simp; omega))))), Lib.hid rfl⟩
  case round =>
    obtain ⟨k, hk, rfl, hb, H⟩ := hrel
    have hsz := hb.size
    by_cases hlt : k < L.length
    · obtain ⟨s, hs⟩ := some_of_lt hlt
      obtain ⟨b, off, rfl, h1, h2⟩ := (hm.below hb).spot hs
      have hbl : b < wr.heap.size := World.block_lt_of_cell? wr _ h1
      have HS := Lib.hid hs
      clear hs
      have hk0 : (0 : Int) ≤ (k : Int) := by omega
      have hkc : (k : Int) ≤ (c : Int) := by omega
      cases hg : isSp s
      · have HG := Lib.hid hg
        clear hg
        have k1 : ∀ dd os, (grow (redrawn (wr.alloc (.cells #[.int .i64 s.x, .int .i64 s.y] 24)) dd) os).cell? ⟨wr.heap.size, 0, none⟩ = some (.int .i64 s.x) := cell_regrown (by simp [go_sem])
        have k2 : ∀ dd os, (grow (redrawn (wr.alloc (.cells #[.int .i64 s.x, .int .i64 s.y] 24)) dd) os).cell? ⟨wr.heap.size, 1, none⟩ = some (.int .i64 s.y) := cell_regrown (by simp [go_sem])
        have cE : ∀ dd os, Calls Tryz.prog 80 #[.agg #[.int .i64 s.x, .int .i64 s.y]] (grow (redrawn (wr.alloc (.cells #[.int .i64 s.x, .int .i64 s.y] 24)) dd) os) fun e w'' => e = .returned (.bool false) ∧ ∃ p : Regrown, w'' = grow (redrawn (wr.alloc (.cells #[.int .i64 s.x, .int .i64 s.y] 24)) p.d) p.os :=
          fun dd os => Calls.regrown_of ((isSpot_any s _).mono (by rintro e w' ⟨he, o, rfl⟩; rw [HG.out] at he; exact ⟨he, (Below.refl _ _).alloc (Nat.le_refl _) _⟩))
        have C1 := Lib.hid cE
        clear cE
        go_wp2
        refine wp_region_quiet_below (by kernel_rfl) (by kernel_rfl) ?_
        repeat (quiet_step (exact C1.out _ _))
        refine wpQuiet_nil ?_
        intro _ hw'
        obtain ⟨⟨dq, osq⟩, hw''⟩ := hw'
        subst hw''
        have hb2 := below_regrown (wr.alloc (.cells #[.int .i64 s.x, .int .i64 s.y] 24)) dq osq
        go_wp2
        go_ret
        exact ⟨ret_bool (by rw [e.out, chTo_no HS.out (.inl HG.out)]), Below.next hb2 (by (repeat (first | exact Below.refl _ _ | assumption | (refine Below.alloc ?_ (by first | omega | (simp; done) | (simp; omega)) _) | (refine Below.setCell ?_ (by first | omega | (simp; done) | (simp; omega)) _) | (refine Below.drew ?_) | (refine Below.drewN ?_ _) | (refine Below.next (by assumption) ?_ (by first | omega | (simp; done) | (simp; omega)))))) (by simp; omega)⟩
      · have HG := Lib.hid hg
        clear hg
        cases hd : has (L.take k) s
        · have HD := Lib.hid hd
          clear hd
          go_wp2
          first | go_region_held3 (fun w' => w'.cell? ⟨wr.heap.size, 0, none⟩ = some (.int .i64 s.x) ∧ w'.cell? ⟨wr.heap.size, 1, none⟩ = some (.int .i64 s.y)) (first | assumption | exact keep2 (by assumption) (by assumption) | (simp [go_sem, World.cell?_alloc_past, *]; done)) (first | (go_at_call 80; refine (isSpot_any _ _).mono ?_; rintro e w' ⟨he, o, rfl⟩; rw [HG.out] at he; subst he) | (go_at_call 106; refine (containsK_any _ _ L k hk s _ (hm.below (by (repeat (first | exact Below.refl _ _ | assumption | (refine Below.alloc ?_ (by first | omega | (simp; done) | (simp; omega)) _) | (refine Below.setCell ?_ (by first | omega | (simp; done) | (simp; omega)) _) | (refine Below.drew ?_) | (refine Below.drewN ?_ _) | (refine Below.next (by assumption) ?_ (by first | omega | (simp; done) | (simp; omega))))))) hl).mono ?_; rintro e w' ⟨he, hq⟩; rw [HD.out] at he; subst he; have hz := hq.size; (try simp at hz); (try have hS := keep2 hq (by assumption)))) | fail
          go_wp2
          go_roundw
          case rel => exact ⟨k + 1, by omega, by go_num, by (repeat (first | exact Below.refl _ _ | assumption | (refine Below.alloc ?_ (by first | omega | (simp; done) | (simp; omega)) _) | (refine Below.setCell ?_ (by first | omega | (simp; done) | (simp; omega)) _) | (refine Below.drew ?_) | (refine Below.drewN ?_ _) | (refine Below.next (by assumption) ?_ (by first | omega | (simp; done) | (simp; omega))))), Lib.hid (chTo_yes H.out HS.out HG.out HD.out)⟩
          case measure => simp [intOf]; omega
        · have HD := Lib.hid hd
          clear hd
          go_wp2
          first | go_region_held3 (fun w' => w'.cell? ⟨wr.heap.size, 0, none⟩ = some (.int .i64 s.x) ∧ w'.cell? ⟨wr.heap.size, 1, none⟩ = some (.int .i64 s.y)) (first | assumption | exact keep2 (by assumption) (by assumption) | (simp [go_sem, World.cell?_alloc_past, *]; done)) (first | (go_at_call 80; refine (isSpot_any _ _).mono ?_; rintro e w' ⟨he, o, rfl⟩; rw [HG.out] at he; subst he) | (go_at_call 106; refine (containsK_any _ _ L k hk s _ (hm.below (by (repeat (first | exact Below.refl _ _ | assumption | (refine Below.alloc ?_ (by first | omega | (simp; done) | (simp; omega)) _) | (refine Below.setCell ?_ (by first | omega | (simp; done) | (simp; omega)) _) | (refine Below.drew ?_) | (refine Below.drewN ?_ _) | (refine Below.next (by assumption) ?_ (by first | omega | (simp; done) | (simp; omega))))))) hl).mono ?_; rintro e w' ⟨he, hq⟩; rw [HD.out] at he; subst he; have hz := hq.size; (try simp at hz); (try have hS := keep2 hq (by assumption)))) | fail
          go_wp2
          go_ret
          exact ⟨ret_bool (by rw [e.out, chTo_no HS.out (.inr HD.out)]), by (repeat (first | exact Below.refl _ _ | assumption | (refine Below.alloc ?_ (by first | omega | (simp; done) | (simp; omega)) _) | (refine Below.setCell ?_ (by first | omega | (simp; done) | (simp; omega)) _) | (refine Below.drew ?_) | (refine Below.drewN ?_ _) | (refine Below.next (by assumption) ?_ (by first | omega | (simp; done) | (simp; omega)))))⟩
    · go_wp2
      go_ret
      have e1 : k = L.length := by omega
      subst e1
      exact ⟨ret_bool (by rw [e.out, H.out]), hb⟩

set_option maxHeartbeats 1600000 in
set_option maxRecDepth 100000 in
theorem chGood_any (A : Option Addr) (c : Nat) (L : List Sp) (w : World) (hm : Mem w A (spots L)) (hl : L.length ≤ 1048576) (hlc : L.length ≤ c) : Calls Tryz.prog 100 #[.slice A L.length c] w fun e w' => e = .returned (.bool (chOk L)) ∧ Below w.heap.size w w' := by
  have e0 : Hid (chTo L L.length = false → chOk L = false) := Lib.hid (fun h => by simp [chOk, h])
  have e1 : Hid (chTo L L.length = true → chOk L = inR L.length 1 12) := Lib.hid (fun h => by simp [chOk, h])
  go_enter Tryz.func100, Tryz.ntmps100
  go_wp2
  go_loopw [3, 4, 6, 9] (fun _ _ _ i wr => ∃ k : Nat, k ≤ L.length ∧ i = .int .i64 k ∧ Below w.heap.size w wr ∧ Hid (chTo L k = true)) (fun _ _ _ i _ => L.length - (intOf i).toNat)
  case atStart => exact ⟨0, by omega, rfl, Below.refl _ _, Lib.hid rfl⟩
  case round =>
    obtain ⟨k, hk, rfl, hb, H⟩ := hrel
    have hsz := hb.size
    by_cases hlt : k < L.length
    · obtain ⟨s, hs⟩ := some_of_lt hlt
      obtain ⟨b, off, rfl, h1, h2⟩ := (hm.below hb).spot hs
      have hbl : b < wr.heap.size := World.block_lt_of_cell? wr _ h1
      have HS := Lib.hid hs
      clear hs
      have hk0 : (0 : Int) ≤ (k : Int) := by omega
      have hkc : (k : Int) ≤ (c : Int) := by omega
      cases hg : isSp s
      · go_wp2_with (go_at_call 83; refine (stGood_any _ _).mono ?_; rintro e w' ⟨rfl, o, rfl⟩)
        go_ret
        exact ⟨ret_bool (by rw [e0.out (chTo_no HS.out (.inl hg))]), by (repeat (first | exact Below.refl _ _ | assumption | (refine Below.alloc ?_ (by first | omega | (simp; done) | (simp; omega)) _) | (refine Below.setCell ?_ (by first | omega | (simp; done) | (simp; omega)) _) | (refine Below.drew ?_) | (refine Below.drewN ?_ _) | (refine Below.next (by assumption) ?_ (by first | omega | (simp; done) | (simp; omega)))))⟩
      · have HG := Lib.hid hg
        rename World => W0
        go_wp2_with (go_at_call 83; refine (stGood_any _ _).mono ?_; rintro e w' ⟨he, o, rfl⟩; rw [HG.out] at he; subst he)
        have hbA : Below (W0.heap.size + 1) (W0.alloc (.cells #[.int .i64 s.x, .int .i64 s.y] 24)) ((W0.alloc (.cells #[.int .i64 s.x, .int .i64 s.y] 24)).alloc o) := by (repeat (first | exact Below.refl _ _ | assumption | (refine Below.alloc ?_ (by first | omega | (simp; done) | (simp; omega)) _) | (refine Below.setCell ?_ (by first | omega | (simp; done) | (simp; omega)) _) | (refine Below.drew ?_) | (refine Below.drewN ?_ _) | (refine Below.next (by assumption) ?_ (by first | omega | (simp; done) | (simp; omega)))))
        go_loopw [6, 21] (fun _ j w2 => ∃ q : Nat, q ≤ k ∧ j = .int .i64 q ∧ Below (W0.heap.size + 1) (W0.alloc (.cells #[.int .i64 s.x, .int .i64 s.y] 24)) w2 ∧ Hid (has (L.take q) s = false)) (fun _ j _ => k - (intOf j).toNat)
        case atStart => exact ⟨0, by omega, rfl, hbA, Lib.hid rfl⟩
        case round =>
          obtain ⟨q, hq, rfl, hbx, H2⟩ := hrel
          obtain ⟨hb2, hsz2⟩ := boxed hbx
          have hbt := Below.next hb2 hb hsz
          have q1 : wr.cell? ⟨W0.heap.size, 0, none⟩ = some (.int .i64 s.x) := boxed_cell hbx 0
          have q2 : wr.cell? ⟨W0.heap.size, 1, none⟩ = some (.int .i64 s.y) := boxed_cell hbx 1
          by_cases hlt3 : q < k
          · obtain ⟨u, hu⟩ := some_of_lt (L := L) (k := q) (by omega)
            obtain ⟨b2, off2, e0', e3, e4⟩ := (hm.below hbt).spot hu
            obtain ⟨rfl, rfl⟩ : b = b2 ∧ off = off2 := by simpa using e0'
            have HU := Lib.hid hu
            clear hu e0'
            by_cases hx : u = s
            · subst hx
              have hd := has_take HU.out hlt3
              have HD := Lib.hid hd
              clear hd
              go_wp2
              go_ret
              exact ⟨ret_bool (by rw [e0.out (chTo_no HS.out (.inr HD.out))]), by (repeat (first | exact Below.refl _ _ | assumption | (refine Below.alloc ?_ (by first | omega | (simp; done) | (simp; omega)) _) | (refine Below.setCell ?_ (by first | omega | (simp; done) | (simp; omega)) _) | (refine Below.drew ?_) | (refine Below.drewN ?_ _) | (refine Below.next (by assumption) ?_ (by first | omega | (simp; done) | (simp; omega)))))⟩
            · have hx' := Lib.hid hx
              rcases sp_ne hx with e5 | ⟨e5, e6⟩
              all_goals
                clear hx
                go_wp2
                go_roundw
                case rel => exact ⟨q + 1, by omega, by go_num, by (repeat (first | exact Below.refl _ _ | assumption | (refine Below.alloc ?_ (by first | omega | (simp; done) | (simp; omega)) _) | (refine Below.setCell ?_ (by first | omega | (simp; done) | (simp; omega)) _) | (refine Below.drew ?_) | (refine Below.drewN ?_ _) | (refine Below.next (by assumption) ?_ (by first | omega | (simp; done) | (simp; omega))))), Lib.hid (take_no H2.out HU.out hx'.out)⟩
                case measure => simp [intOf]; omega
          · have e5 : Hid (q = k) := Lib.hid (by omega)
            go_wp2
            go_roundw
            case rel => exact ⟨k + 1, by omega, by go_num, by (repeat (first | exact Below.refl _ _ | assumption | (refine Below.alloc ?_ (by first | omega | (simp; done) | (simp; omega)) _) | (refine Below.setCell ?_ (by first | omega | (simp; done) | (simp; omega)) _) | (refine Below.drew ?_) | (refine Below.drewN ?_ _) | (refine Below.next (by assumption) ?_ (by first | omega | (simp; done) | (simp; omega))))), Lib.hid (chTo_yes H.out HS.out HG.out (e5.out ▸ H2.out))⟩
            case measure => simp [intOf]; omega
    · go_wp2_with (go_at_call 45; refine (l1In_any _ _ _ _).mono ?_; rintro e w' ⟨rfl, rfl⟩)
      go_ret
      have e2 : k = L.length := by omega
      subst e2
      exact ⟨ret_bool (by rw [e1.out H.out]), hb⟩
end Go.Proofs.YthehcjfljjfnmaaGreat
