/-
  Measure: a struct of 2 numbers; lists of it as cells; the laws' own small functions on it.
-/
import Derived.Test.YtdipmjflgjlfeaaCpySp
import Derived.Test.YtdipmjflgjlfeaaFrame
import Derived.Lib.QuietBelow
namespace Go.Proofs.Ytdipmjflgjlfeaa
open Go.RowKit Go.Sort

structure Ms where
  c : Int
  t : Int
deriving DecidableEq

def okMs (s : Ms) : Prop := okInt s.c ∧ okInt s.t
def measures (L : List Ms) : List Value := L.flatMap fun s => [Value.int .i64 s.c, Value.int .i64 s.t]
theorem measures_len (L : List Ms) : (measures L).length = L.length * 2 := flat_len _ 2 (fun _ => rfl) L
theorem Mem.measure {w : World} {A : Option Addr} {L : List Ms} (h : Mem w A (measures L)) {k : Nat} {s : Ms} (hk : L[k]? = some s) :
    ∃ b off, A = some ⟨b, off, none⟩ ∧ w.cell? ⟨b, off + k * 2, none⟩ = some (.int .i64 s.c) ∧ w.cell? ⟨b, off + k * 2 + 1, none⟩ = some (.int .i64 s.t) := by
  obtain ⟨b, off, e, hc⟩ := Mem.elem (sz := 2) (fun _ => rfl) h hk (by omega)
  exact ⟨b, off, e, hc 0 _ rfl, hc 1 _ rfl⟩
theorem measures_set : ∀ (L : List Ms) (k : Nat) (s : Ms), measures (L.set k s) = ((((measures L).set (k * 2) (.int .i64 s.c))).set (k * 2 + 1) (.int .i64 s.t))
  | [], _, _ => by simp [measures]
  | x :: L, 0, n => by simp [measures]
  | x :: L, k + 1, n => by
    have := measures_set L k n
    have e1 : (k + 1) * 2 = k * 2 + 1 + 1 := by omega
    simp only [measures, List.set_cons_succ, List.flatMap_cons, List.cons_append, List.nil_append, e1] at *
    rw [this]
theorem info_measure : (Try.prog.info? 112).map (fun i => (i.zero, i.size, i.bytes)) = some (some (.agg #[.int .i64 0, .int .i64 0]), 2, 16) := by kernel_rfl
end Go.Proofs.Ytdipmjflgjlfeaa
