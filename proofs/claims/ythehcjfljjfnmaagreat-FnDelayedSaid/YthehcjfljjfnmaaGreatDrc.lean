/-
  Draws of charts: chFind, chartOf.
-/
import Derived.Test.YthehcjfljjfnmaaGreatDrx
import Derived.Test.YthehcjfljjfnmaaGreatCh
import Derived.Deep.RegionHeld3
namespace Go.Proofs.YthehcjfljjfnmaaGreat
open Go.RowKit

set_option maxRecDepth 100000 in
theorem chFind_any (A : Option Addr) (c : Nat) (L : List Sp) (x : Sp) (w : World) (hm : Mem w A (spots L)) (hl : L.length ≤ 1048576) : Calls Tryz.prog 109 #[.slice A L.length c, .agg #[.int .i64 x.x, .int .i64 x.y]] w fun e w' => e = .returned (.int .i64 (idx L x)) ∧ Below w.heap.size w w' := by
  go_enter Tryz.func109, Tryz.ntmps109
  go_wp2
  go_loopw [4, 5, 6, 9] (fun r _ _ i wr => r = .int .i64 0 ∧ ∃ k : Nat, k ≤ L.length ∧ i = .int .i64 k ∧ Below (w.heap.size + 1) (w.alloc (.cells #[.int .i64 x.x, .int .i64 x.y] 24)) wr ∧ Hid (has (L.take k) x = false)) (fun _ _ _ i _ => L.length - (intOf i).toNat)
  case atStart => exact ⟨rfl, 0, by omega, rfl, by (repeat (first | exact Below.refl _ _ | assumption | (refine Below.alloc ?_ (by first | omega | (simp; done) | (simp; omega)) _) | (refine Below.setCell ?_ (by first | omega | (simp; done) | (simp; omega)) _) | (refine Below.drew ?_) | (refine Below.drewN ?_ _) | (refine Below.next (by assumption) ?_ (by first | omega | (simp; done) | (simp; omega))))), Lib.hid rfl⟩
  case round =>
    obtain ⟨rfl, k, hk, rfl, hbx, H⟩ := hrel
    obtain ⟨hb, hsz⟩ := boxed hbx
    by_cases hlt : k < L.length
    · obtain ⟨s, hs⟩ := some_of_lt hlt
      obtain ⟨b, off, rfl, h1, h2⟩ := (hm.below hb).spot hs
      have q1 : wr.cell? ⟨w.heap.size, 0, none⟩ = some (.int .i64 x.x) := boxed_cell hbx 0
      have q2 : wr.cell? ⟨w.heap.size, 1, none⟩ = some (.int .i64 x.y) := boxed_cell hbx 1
      have HS := Lib.hid hs
      clear hs
      by_cases hx : s = x
      · subst hx
        go_wp2
        go_ret
        exact ⟨ret_int (idx_at H.out HS.out).symm, by (repeat (first | exact Below.refl _ _ | assumption | (refine Below.alloc ?_ (by first | omega | (simp; done) | (simp; omega)) _) | (refine Below.setCell ?_ (by first | omega | (simp; done) | (simp; omega)) _) | (refine Below.drew ?_) | (refine Below.drewN ?_ _) | (refine Below.next (by assumption) ?_ (by first | omega | (simp; done) | (simp; omega)))))⟩
      · have hx' := Lib.hid hx
        rcases sp_ne (fun h : x = s => hx h.symm) with e1 | ⟨e1, e2⟩
        all_goals
          clear hx
          go_wp2
          go_roundw
          case rel => exact ⟨rfl, k + 1, by omega, by go_num, by (repeat (first | exact Below.refl _ _ | assumption | (refine Below.alloc ?_ (by first | omega | (simp; done) | (simp; omega)) _) | (refine Below.setCell ?_ (by first | omega | (simp; done) | (simp; omega)) _) | (refine Below.drew ?_) | (refine Below.drewN ?_ _) | (refine Below.next (by assumption) ?_ (by first | omega | (simp; done) | (simp; omega))))), Lib.hid (take_no H.out HS.out hx'.out)⟩
          case measure => simp [intOf]; omega
    · go_wp2
      go_ret
      exact ⟨ret_int (idx_none (take_all H.out (by omega))).symm, hb⟩

/-- How many spots lie so low that a later try may meet them. -/
def cnt (L : List Sp) (t : Nat) : Nat := (L.filter fun s => decide (7 + (t : Int) ≤ s.y)).length
theorem cnt_le (L : List Sp) (t : Nat) : cnt L t ≤ L.length := List.length_filter_le _ _
theorem cnt_cons (s : Sp) (L : List Sp) (t : Nat) : cnt (s :: L) t = (if 7 + (t : Int) ≤ s.y then 1 else 0) + cnt L t := by
  unfold cnt
  rw [List.filter_cons]
  by_cases h : 7 + (t : Int) ≤ s.y
  · simp [h]; omega
  · simp [h]
theorem cnt_mono : ∀ (L : List Sp) (t : Nat), cnt L (t + 1) ≤ cnt L t
  | [], _ => Nat.le_refl _
  | s :: L, t => by
    have ih := cnt_mono L t
    rw [cnt_cons, cnt_cons]
    split <;> split <;> omega
theorem cnt_has : ∀ (L : List Sp) (t : Nat) (x : Int), has L ⟨x, 7 + (t : Int)⟩ = true → cnt L (t + 1) + 1 ≤ cnt L t
  | [], _, _, h => by simp [has] at h
  | s :: L, t, x, h => by
    have hm := cnt_mono L t
    rw [has_cons, Bool.or_eq_true] at h
    rw [cnt_cons, cnt_cons]
    rcases h with h | h
    · have e : (⟨x, 7 + (t : Int)⟩ : Sp) = s := by simpa using h
      have e2 : s.y = 7 + (t : Int) := by rw [← e]
      rw [if_neg (show ¬ 7 + ((t + 1 : Nat) : Int) ≤ s.y by omega), if_pos (show 7 + (t : Int) ≤ s.y by omega)]
      omega
    · have ih := cnt_has L t x h
      split <;> split <;> omega
theorem cnt_snoc (L : List Sp) (t : Nat) (x : Int) : cnt (L ++ [⟨x, 7 + (t : Int)⟩]) (t + 1) = cnt L (t + 1) := by
  unfold cnt
  rw [List.filter_append]
  simp
  omega
/-- So often is tried. -/
def pot (L : List Sp) (m t : Nat) : Prop := t ≤ 60 ∨ t + (m - L.length) + cnt L t ≤ 87
theorem pot_le {L : List Sp} {m t : Nat} (h : pot L m t) : t ≤ 87 := by
  rcases h with h | h <;> omega
theorem pot_next {L : List Sp} {m t : Nat} (h : pot L m t) (hm : m ≤ 13) (hl : L.length < m) {s : Sp} (hs : 60 < t → s = ⟨3 * (L.length : Int), 7 + (t : Int)⟩) (has_ : has L s = true) : pot L m (t + 1) := by
  have h1 := cnt_le L (t + 1)
  by_cases ht : 60 < t
  · right
    rcases h with h | h
    · omega
    · have := hs ht
      subst this
      have := cnt_has L t _ has_
      omega
  · by_cases h60 : t = 60
    · right; omega
    · left; omega
theorem pot_more {L : List Sp} {m t : Nat} (h : pot L m t) (hm : m ≤ 13) (hl : L.length < m) {s : Sp} (hs : 60 < t → s = ⟨3 * (L.length : Int), 7 + (t : Int)⟩) : pot (L ++ [s]) m (t + 1) := by
  have h1 := cnt_le (L ++ [s]) (t + 1)
  rw [List.length_append] at h1
  simp only [List.length_singleton] at h1
  by_cases ht : 60 < t
  · right
    rcases h with h | h
    · omega
    · have := hs ht
      subst this
      rw [cnt_snoc, List.length_append]
      have := cnt_mono L t
      simp only [List.length_singleton]
      omega
  · by_cases h60 : t = 60
    · right; rw [List.length_append]; simp only [List.length_singleton]; omega
    · left; omega
end Go.Proofs.YthehcjfljjfnmaaGreat
