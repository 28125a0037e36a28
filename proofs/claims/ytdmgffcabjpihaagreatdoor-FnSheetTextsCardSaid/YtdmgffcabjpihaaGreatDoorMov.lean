/-
  Move: a struct of 5 numbers (spots among them); lists of it as cells; the laws' own small functions on it.
-/
import Derived.Test.YtdmgffcabjpihaaGreatDoorCpySp
import Derived.Test.YtdmgffcabjpihaaGreatDoorFrame
import Derived.Lib.QuietBelow
namespace Go.Proofs.YtdmgffcabjpihaaGreatDoor
open Go.RowKit Go.Sort

structure Mv where
  f : Sp
  t : Sp
  c : Int
deriving DecidableEq

def okMv (s : Mv) : Prop := okSp s.f ∧ okSp s.t ∧ okInt s.c
def moves (L : List Mv) : List Value := L.flatMap fun s => [Value.int .i64 s.f.x, Value.int .i64 s.f.y, Value.int .i64 s.t.x, Value.int .i64 s.t.y, Value.int .i64 s.c]
theorem moves_len (L : List Mv) : (moves L).length = L.length * 5 := flat_len _ 5 (fun _ => rfl) L
theorem moves_snoc (L : List Mv) (s : Mv) : moves (L ++ [s]) = moves L ++ [Value.int .i64 s.f.x, Value.int .i64 s.f.y, Value.int .i64 s.t.x, Value.int .i64 s.t.y, Value.int .i64 s.c] := by simp [moves]
theorem Mem.move {w : World} {A : Option Addr} {L : List Mv} (h : Mem w A (moves L)) {k : Nat} {s : Mv} (hk : L[k]? = some s) :
    ∃ b off, A = some ⟨b, off, none⟩ ∧ w.cell? ⟨b, off + k * 5, none⟩ = some (.int .i64 s.f.x) ∧ w.cell? ⟨b, off + k * 5 + 1, none⟩ = some (.int .i64 s.f.y) ∧ w.cell? ⟨b, off + k * 5 + 2, none⟩ = some (.int .i64 s.t.x) ∧ w.cell? ⟨b, off + k * 5 + 3, none⟩ = some (.int .i64 s.t.y) ∧ w.cell? ⟨b, off + k * 5 + 4, none⟩ = some (.int .i64 s.c) := by
  obtain ⟨b, off, e, hc⟩ := Mem.elem (sz := 5) (fun _ => rfl) h hk (by omega)
  exact ⟨b, off, e, hc 0 _ rfl, hc 1 _ rfl, hc 2 _ rfl, hc 3 _ rfl, hc 4 _ rfl⟩
theorem moves_set : ∀ (L : List Mv) (k : Nat) (s : Mv), moves (L.set k s) = ((((((((((moves L).set (k * 5) (.int .i64 s.f.x))).set (k * 5 + 1) (.int .i64 s.f.y))).set (k * 5 + 2) (.int .i64 s.t.x))).set (k * 5 + 3) (.int .i64 s.t.y))).set (k * 5 + 4) (.int .i64 s.c))
  | [], _, _ => by simp [moves]
  | x :: L, 0, n => by simp [moves]
  | x :: L, k + 1, n => by
    have := moves_set L k n
    have e1 : (k + 1) * 5 = k * 5 + 1 + 1 + 1 + 1 + 1 := by omega
    simp only [moves, List.set_cons_succ, List.flatMap_cons, List.cons_append, List.nil_append, e1] at *
    rw [this]
theorem info_move : (Tryz.prog.info? 49).map (fun i => (i.zero, i.size, i.bytes)) = some (some (.agg #[.int .i64 0, .int .i64 0, .int .i64 0, .int .i64 0, .int .i64 0]), 5, 40) := by kernel_rfl
def runMv (k : Int) (n : Nat) : List Mv := (List.range n).map fun i : Nat => ⟨⟨k + 5 * (i : Int), k + 5 * (i : Int) + 1⟩, ⟨k + 5 * (i : Int) + 2, k + 5 * (i : Int) + 3⟩, k + 5 * (i : Int) + 4⟩
theorem runMv_len (k : Int) (n : Nat) : (runMv k n).length = n := by simp [runMv]
theorem runMv_at {k : Int} {n j : Nat} (h : j < n) : (runMv k n)[j]? = some ⟨⟨k + 5 * (j : Int), k + 5 * (j : Int) + 1⟩, ⟨k + 5 * (j : Int) + 2, k + 5 * (j : Int) + 3⟩, k + 5 * (j : Int) + 4⟩ := by simp [runMv, h]
def markedMv (L : List Mv) (k : Int) (j : Nat) : List Mv := runMv k j ++ L.drop j
theorem markedMv_zero (L : List Mv) (k : Int) : markedMv L k 0 = L := by simp [markedMv, runMv]
theorem markedMv_all (L : List Mv) (k : Int) {j : Nat} (h : L.length ≤ j) (h2 : j ≤ L.length) : markedMv L k j = runMv k L.length := by
  have : j = L.length := by omega
  subst this
  simp [markedMv]
theorem markedMv_len (L : List Mv) (k : Int) {j : Nat} (h : j ≤ L.length) : (markedMv L k j).length = L.length := by simp [markedMv, runMv]; omega
theorem markedMv_set {L : List Mv} {k : Int} {j : Nat} (h : j < L.length) : (markedMv L k j).set j ⟨⟨k + 5 * (j : Int), k + 5 * (j : Int) + 1⟩, ⟨k + 5 * (j : Int) + 2, k + 5 * (j : Int) + 3⟩, k + 5 * (j : Int) + 4⟩ = markedMv L k (j + 1) := by
  have e1 : (runMv k j).length = j := runMv_len k j
  rw [markedMv, markedMv, List.set_append_right _ _ (by omega), e1, Nat.sub_self, runMv, runMv, List.range_succ, List.map_append, List.append_assoc]
  congr 1
  rw [List.drop_eq_getElem_cons h, List.set_cons_zero]
  rfl
end Go.Proofs.YtdmgffcabjpihaaGreatDoor
