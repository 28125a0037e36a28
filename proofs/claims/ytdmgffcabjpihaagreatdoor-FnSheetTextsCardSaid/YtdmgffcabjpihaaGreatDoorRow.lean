/-
  Row: a struct of 3 numbers (spots among them); lists of it as cells; the laws' own small functions on it.
-/
import Derived.Test.YtdmgffcabjpihaaGreatDoorCpySp
import Derived.Test.YtdmgffcabjpihaaGreatDoorFrame
import Derived.Lib.QuietBelow
namespace Go.Proofs.YtdmgffcabjpihaaGreatDoor
open Go.RowKit Go.Sort

structure Rw where
  c : Int
  t : Sp
deriving DecidableEq

def okRw (s : Rw) : Prop := okInt s.c ∧ okSp s.t
def rows (L : List Rw) : List Value := L.flatMap fun s => [Value.int .i64 s.c, Value.int .i64 s.t.x, Value.int .i64 s.t.y]
theorem rows_len (L : List Rw) : (rows L).length = L.length * 3 := flat_len _ 3 (fun _ => rfl) L
theorem rows_snoc (L : List Rw) (s : Rw) : rows (L ++ [s]) = rows L ++ [Value.int .i64 s.c, Value.int .i64 s.t.x, Value.int .i64 s.t.y] := by simp [rows]
theorem Mem.row {w : World} {A : Option Addr} {L : List Rw} (h : Mem w A (rows L)) {k : Nat} {s : Rw} (hk : L[k]? = some s) :
    ∃ b off, A = some ⟨b, off, none⟩ ∧ w.cell? ⟨b, off + k * 3, none⟩ = some (.int .i64 s.c) ∧ w.cell? ⟨b, off + k * 3 + 1, none⟩ = some (.int .i64 s.t.x) ∧ w.cell? ⟨b, off + k * 3 + 2, none⟩ = some (.int .i64 s.t.y) := by
  obtain ⟨b, off, e, hc⟩ := Mem.elem (sz := 3) (fun _ => rfl) h hk (by omega)
  exact ⟨b, off, e, hc 0 _ rfl, hc 1 _ rfl, hc 2 _ rfl⟩
theorem rows_set : ∀ (L : List Rw) (k : Nat) (s : Rw), rows (L.set k s) = ((((((rows L).set (k * 3) (.int .i64 s.c))).set (k * 3 + 1) (.int .i64 s.t.x))).set (k * 3 + 2) (.int .i64 s.t.y))
  | [], _, _ => by simp [rows]
  | x :: L, 0, n => by simp [rows]
  | x :: L, k + 1, n => by
    have := rows_set L k n
    have e1 : (k + 1) * 3 = k * 3 + 1 + 1 + 1 := by omega
    simp only [rows, List.set_cons_succ, List.flatMap_cons, List.cons_append, List.nil_append, e1] at *
    rw [this]
theorem info_row : (Tryz.prog.info? 46).map (fun i => (i.zero, i.size, i.bytes)) = some (some (.agg #[.int .i64 0, .int .i64 0, .int .i64 0]), 3, 24) := by kernel_rfl
def runRw (k : Int) (n : Nat) : List Rw := (List.range n).map fun i : Nat => ⟨k + 3 * (i : Int), ⟨k + 3 * (i : Int) + 1, k + 3 * (i : Int) + 2⟩⟩
theorem runRw_len (k : Int) (n : Nat) : (runRw k n).length = n := by simp [runRw]
theorem runRw_at {k : Int} {n j : Nat} (h : j < n) : (runRw k n)[j]? = some ⟨k + 3 * (j : Int), ⟨k + 3 * (j : Int) + 1, k + 3 * (j : Int) + 2⟩⟩ := by simp [runRw, h]
def markedRw (L : List Rw) (k : Int) (j : Nat) : List Rw := runRw k j ++ L.drop j
theorem markedRw_zero (L : List Rw) (k : Int) : markedRw L k 0 = L := by simp [markedRw, runRw]
theorem markedRw_all (L : List Rw) (k : Int) {j : Nat} (h : L.length ≤ j) (h2 : j ≤ L.length) : markedRw L k j = runRw k L.length := by
  have : j = L.length := by omega
  subst this
  simp [markedRw]
theorem markedRw_len (L : List Rw) (k : Int) {j : Nat} (h : j ≤ L.length) : (markedRw L k j).length = L.length := by simp [markedRw, runRw]; omega
theorem markedRw_set {L : List Rw} {k : Int} {j : Nat} (h : j < L.length) : (markedRw L k j).set j ⟨k + 3 * (j : Int), ⟨k + 3 * (j : Int) + 1, k + 3 * (j : Int) + 2⟩⟩ = markedRw L k (j + 1) := by
  have e1 : (runRw k j).length = j := runRw_len k j
  rw [markedRw, markedRw, List.set_append_right _ _ (by omega), e1, Nat.sub_self, runRw, runRw, List.range_succ, List.map_append, List.append_assoc]
  congr 1
  rw [List.drop_eq_getElem_cons h, List.set_cons_zero]
  rfl
end Go.Proofs.YtdmgffcabjpihaaGreatDoor
