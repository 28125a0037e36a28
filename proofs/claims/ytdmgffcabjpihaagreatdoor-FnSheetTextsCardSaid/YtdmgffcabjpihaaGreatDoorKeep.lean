/-
  Blocks of the call's own that are read and written while another row grows by append.
-/
import Derived.Test.YtdmgffcabjpihaaGreatDoorMem
import Derived.Maps.AppendAt
namespace Go.Proofs.YtdmgffcabjpihaaGreatDoor
open Go.RowKit

/-- A block of cells that may be written. -/
def Blk (w : World) (g : Nat) (cs : Array Value) (t : TypeId) : Prop := w.heap[g]? = some (.cells cs t (0, 0))
theorem Blk.cell {w : World} {g : Nat} {cs : Array Value} {t : TypeId} (h : Blk w g cs t) (j : Nat) : w.cell? ⟨g, j, none⟩ = cs[j]? := cell_of_row _ g j cs t (0, 0) h
theorem Blk.frozen {w : World} {g : Nat} {cs : Array Value} {t : TypeId} (h : Blk w g cs t) (j : Nat) : w.frozen? ⟨g, j, none⟩ = false := frozen_of_row _ g j cs t h
theorem Blk.lt {w : World} {g : Nat} {cs : Array Value} {t : TypeId} (h : Blk w g cs t) : g < w.heap.size := by
  rcases Nat.lt_or_ge g w.heap.size with h' | h'
  · exact h'
  · unfold Blk at h
    simp [Array.getElem?_eq_none h'] at h
theorem Blk.below {w w' : World} {B g : Nat} {cs : Array Value} {t : TypeId} (h : Blk w g cs t) (hb : Below B w w') (hg : g < B) : Blk w' g cs t := (hb.block g hg).trans h
theorem Blk.new (w : World) (cs : Array Value) (t : TypeId) : Blk (w.alloc (.cells cs t)) w.heap.size cs t := heap_alloc_new w _
theorem Blk.alloc {w : World} {g : Nat} {cs : Array Value} {t : TypeId} (h : Blk w g cs t) (o : Obj) : Blk (w.alloc o) g cs t := h.below ((Below.refl _ _).alloc (Nat.le_refl _) o) h.lt
theorem Blk.drew {w : World} {g : Nat} {cs : Array Value} {t : TypeId} (h : Blk w g cs t) : Blk w.drew g cs t := h
theorem Blk.set {w : World} {g : Nat} {cs : Array Value} {t : TypeId} (h : Blk w g cs t) (j : Nat) (v : Value) : Blk (w.setCell ⟨g, j, none⟩ v) g (cs.setIfInBounds j v) t := heap_setCell_same w g j cs t v h
theorem Blk.other {w : World} {g g' j : Nat} {cs : Array Value} {t : TypeId} (h : Blk w g cs t) (hne : g ≠ g') (v : Value) : Blk (w.setCell ⟨g', j, none⟩ v) g cs t := (heap_setCell_other w ⟨g', j, none⟩ g v hne).trans h
theorem Blk.set2 {w : World} {g : Nat} {x y : Value} {t : TypeId} (h : Blk w g #[x, y] t) (u v : Value) : Blk ((w.setCell ⟨g, 0, none⟩ u).setCell ⟨g, 1, none⟩ v) g #[u, v] t := (h.set 0 u).set 1 v

/-- 'out = append(out, x)': other blocks that are there stay as they are, and none of them becomes the row's. -/
theorem wpList_append_keep {P : Program} (w : World) {ops : Array Oper} {rest : List Oper} {o : Oper} {a : Act} {Q : Exit → Act → World → Prop} (hgd : o.guard = none) (s x : Operand) (t : TypeId)
    (ho : o.op = .call { callee := .builtin .append, args := #[s, x], argTypes := #[t, t] })
    (base : Nat) (e : TypeId) (i : TypeInfo) (z : Value) (size bytes : Nat) (ht : P.underlying t = some (.slice e)) (hi : P.info? e = some i) (hz : i.zero = some z)
    (hsize : i.size = size) (hby : i.bytes = bytes) (hzs : z.cells.size = size) (hsz : 0 < size)
    (v : Value) (n : Nat) (xs : List Value) (hs : a.eval s = v) (hown : w.ownsRow base e size v n xs)
    (news : Array Value) (te : TypeId) (c : Nat) (hx : a.eval x = .slice (some ⟨w.heap.size, 0, none⟩) 1 c) (hl : news.size = size) (h1 : news.toList.all Value.oneCell' = true)
    (h63 : n ≤ 1073741824) (hbytes : bytes ≤ 65536) (hbase : base ≤ w.heap.size)
    (h : ∀ v' w', w'.ownsRow base e size v' (n + 1) (xs ++ news.toList) → Below base w w' → (∀ k, k < w.heap.size → v.ownBlock ≠ some k → w'.heap[k]? = w.heap[k]? ∧ v'.ownBlock ≠ some k) → w.heap.size < w'.heap.size → wpList P ops Q rest (a.put o.dst v') w') : wpList P ops Q (o :: rest) a (w.alloc (.cells news te)) := by
  have hb2 : (n + 1) * bytes ≤ 140737488355328 := Nat.le_trans (Nat.mul_le_mul (Nat.succ_le_succ h63) hbytes) (by decide)
  refine wpList_append_own_at _ hgd s x t ho base e i z size bytes ht hi hz hsize hby hzs hsz v n xs hs (hown.alloc _) ⟨w.heap.size, 0, none⟩ 1 c news.toList hx (by simpa using hl) ?_ ?_ (by unfold maxLen; omega) hb2 (by simp; omega) ?_
  · intro j u hu
    rw [Addr.add_lit, Nat.zero_add, cell_of_row _ w.heap.size j news te (0, 0) (heap_alloc_new w _)]
    simpa using hu
  · intro u hu
    exact List.all_eq_true.1 h1 u hu
  · intro v' w' ho' hg _ hat
    refine h v' w' ho' (((Below.refl base w).alloc hbase _).grown hg (by simp; omega) (fun k hk => ?_)) (fun k hk hne => ⟨?_, ?_⟩) (by have := hg.size; simp at this; omega)
    · exact (hown.lt k hk).1
    · rw [hg.block k (by simp; omega) (fun e => hne e.symm)]
      exact ((Below.refl w.heap.size w).alloc (Nat.le_refl _) _).block k hk
    · rcases hat with hat | hat
      · rw [hat]; exact hne
      · rw [hat]
        intro e
        have := Option.some.inj e
        simp at this
        omega
end Go.Proofs.YtdmgffcabjpihaaGreatDoor
