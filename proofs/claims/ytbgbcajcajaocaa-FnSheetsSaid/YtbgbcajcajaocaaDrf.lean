/-
  Draws of absences: absence, DrawIsAbsence, DrawLeastCoverOf, DrawLackingPerformers, DrawWorstAbsence.
-/
import Derived.Test.YtbgbcajcajaocaaDre
namespace Go.Proofs.Ytbgbcajcajaocaa
open Go.RowKit

/-- Spots, and performers, that a call has laid behind w. -/
def ownH (w w' : World) (A' : Option Addr) (c' : Nat) (L : List Sp) : Prop := L.length ≤ 13 ∧ w'.ownsRow w.heap.size 26 2 (.slice A' L.length c') L.length (spots L) ∧ (∀ s ∈ L, smSp s)
def ownI (w w' : World) (A' : Option Addr) (c' : Nat) (O : List Int) : Prop := O.length ≤ 14 ∧ w'.ownsRow w.heap.size 3 1 (.slice A' O.length c') O.length (ints O) ∧ (∀ x ∈ O, -1 ≤ x ∧ x ≤ 13)
theorem ownH.base {w a w' : World} {A' : Option Addr} {c' : Nat} {L : List Sp} (h : ownH a w' A' c' L) (hb : w.heap.size ≤ a.heap.size) : ownH w w' A' c' L := ⟨h.1, own_base h.2.1 hb, h.2.2⟩
theorem ownI.base {w a w' : World} {A' : Option Addr} {c' : Nat} {L : List Int} (h : ownI a w' A' c' L) (hb : w.heap.size ≤ a.heap.size) : ownI w w' A' c' L := ⟨h.1, own_base h.2.1 hb, h.2.2⟩
theorem ownH.oth {w w' w'' : World} {g : Nat} {A' : Option Addr} {c' : Nat} {L : List Sp} (h : ownH w w' A' c' L) (ho : Oth g w' w'') (hg : g < w.heap.size) : ownH w w'' A' c' L := ⟨h.1, ho.own h.2.1 hg, h.2.2⟩
theorem ownI.oth {w w' w'' : World} {g : Nat} {A' : Option Addr} {c' : Nat} {L : List Int} (h : ownI w w' A' c' L) (ho : Oth g w' w'') (hg : g < w.heap.size) : ownI w w'' A' c' L := ⟨h.1, ho.own h.2.1 hg, h.2.2⟩
theorem ownH.below {w w' w'' : World} {A' : Option Addr} {c' : Nat} {L : List Sp} (h : ownH w w' A' c' L) (hb : Below w'.heap.size w' w'') : ownH w w'' A' c' L := ⟨h.1, own_below h.2.1 hb, h.2.2⟩
theorem ownI.below {w w' w'' : World} {A' : Option Addr} {c' : Nat} {L : List Int} (h : ownI w w' A' c' L) (hb : Below w'.heap.size w' w'') : ownI w w'' A' c' L := ⟨h.1, own_below h.2.1 hb, h.2.2⟩
/-- A chart, absent and needed ones are drawn. -/
def Dab (g k : Nat) (w : World) (e : Ending) (w' : World) : Prop :=
  ∃ A' c' L B' d' O C' f' M, e = .returned (.tuple #[.slice A' L.length c', .slice B' O.length d', .slice C' M.length f']) ∧ ownH w w' A' c' L ∧ ownI w w' B' d' O ∧ ownI w w' C' f' M ∧ Cur w' g k ∧ Oth g w w'
/-- Bytes that are handed in. -/
def code (w : World) (A : Option Addr) (C : List Int) : Prop := Mem w A (bytes C) ∧ (∀ x ∈ C, 0 ≤ x ∧ x ≤ 255) ∧ C.length ≤ 9223372036854775807
theorem code.below {w w' : World} {A : Option Addr} {C : List Int} (h : code w A C) (hb : Below w.heap.size w w') : code w' A C := ⟨h.1.below hb, h.2⟩
theorem code.cur {w : World} {A : Option Addr} {c : Nat} {C : List Int} (h : code w A C) : Cur (w.alloc (.cells #[.slice A C.length c, .int .i64 0, .int .u64 0] 88)) w.heap.size 0 := Cur.new h.1 h.2.1 h.2.2
def DrA (w : World) (e : Ending) (w' : World) : Prop :=
  ∃ A' c' L B' d' O C' f' M, e = .returned (.tuple #[.slice A' L.length c', .slice B' O.length d', .slice C' M.length f']) ∧ ownH w w' A' c' L ∧ ownI w w' B' d' O ∧ ownI w w' C' f' M ∧ Below w.heap.size w w'
def DrW (w : World) (e : Ending) (w' : World) : Prop :=
  ∃ A' c' L C' f' M, e = .returned (.tuple #[.slice A' L.length c', .slice C' M.length f']) ∧ ownH w w' A' c' L ∧ ownI w w' C' f' M ∧ Below w.heap.size w w'
end Go.Proofs.Ytbgbcajcajaocaa
