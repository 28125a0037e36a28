/-
  Contracts: absences, open spots, spare performers, covers.
-/
import Derived.Test.YthehcjfljjfnmaaGreatCh
import Derived.Test.YthehcjfljjfnmaaGreatBase
namespace Go.Proofs.YthehcjfljjfnmaaGreat
open Go.RowKit

theorem own_cap {w : World} {base : Nat} {e : TypeId} {size : Nat} {A : Option Addr} {n c : Nat} {xs : List Value} (h : w.ownsRow base e size (.slice A n c) n xs) : n ≤ c := by
  rcases h.2 with ⟨_, h2⟩ | ⟨g, cap, cur, hv, _, _, h3, _⟩
  · omega
  · simp only [Value.slice.injEq] at hv
    omega
/-- A call hands back numbers in memory of its own. -/
def RetRow (w : World) (V : List Int) (e : Ending) (w' : World) : Prop :=
  ∃ A' c', e = .returned (.slice A' V.length c') ∧ w'.ownsRow w.heap.size 3 1 (.slice A' V.length c') V.length (ints V) ∧ Below w.heap.size w w'
theorem RetRow.mk {w w' : World} {V : List Int} {v : Value} {n base : Nat} (ho : w'.ownsRow base 3 1 v n (ints V)) (hn : n = V.length) (hbase : w.heap.size ≤ base) (hb : Below w.heap.size w w') : RetRow w V (.returned v) w' := by
  subst hn
  obtain ⟨A', c', rfl⟩ := own_form ho
  exact ⟨A', c', rfl, own_base ho hbase, hb⟩
theorem opens_step {a n : List Int} {k : Nat} {x : Int} (h : n[k]? = some x) : (n.take (k + 1)).filter (has a) = if has a x then (n.take k).filter (has a) ++ [x] else (n.take k).filter (has a) := filter_take_succ h
theorem opens_all {a n : List Int} {k : Nat} (h : n.length ≤ k) : (n.take k).filter (has a) = opens a n := by rw [List.take_of_length_le h]; rfl
theorem take_filter_len (a n : List Int) (k : Nat) : ((n.take k).filter (has a)).length ≤ n.length :=
  Nat.le_trans (List.length_filter_le _ _) (by simp; omega)

theorem l1HasK_any (A : Option Addr) (c : Nat) (L : List Int) (k : Nat) (hk : k ≤ L.length) (x : Int) (w : World) (hm : Mem w A (ints L)) (hl : L.length ≤ 1048576) : Calls Tryz.prog 107 #[.slice A k c, .int .i64 x] w fun e w' => e = .returned (.bool (has (L.take k) x)) ∧ w = w' := by
  have e : (L.take k).length = k := by simp; omega
  have h := l1Has_any A c (L.take k) x w (hm.take k) (by omega)
  rw [e] at h
  exact h

end Go.Proofs.YthehcjfljjfnmaaGreat
