/-
  Draws of charts: chartOf.
-/
import Derived.Test.YtdmgffcabjpihaaGreatDoorDrc
import Derived.Deep.RegionHeld3
import Derived.Deep.DeepCutAuto
namespace Go.Proofs.YtdmgffcabjpihaaGreatDoor
open Go.RowKit

/-- Spots are drawn, n of them. -/
def Dc (g k n : Nat) (w : World) (e : Ending) (w' : World) : Prop :=
  ∃ A' c' L, e = .returned (.slice A' L.length c') ∧ L.length = n ∧ w'.ownsRow w.heap.size 25 2 (.slice A' L.length c') L.length (spots L) ∧ (∀ s ∈ L, smSp s) ∧ Cur w' g k ∧ Oth g w w'
/-- Inside a round: the box of the spot that is tried. -/
def Bxd (w wx : World) (g K q : Nat) (v : Value) (L : List Sp) (R : Sp → Prop) : Prop :=
  ∃ s : Sp, R s ∧ Blk wx q #[.int .i64 s.x, .int .i64 s.y] 25 ∧ (0 ≤ s.x ∧ s.x ≤ 1280 ∧ 0 ≤ s.y ∧ s.y ≤ 672) ∧ wx.ownsRow w.heap.size 25 2 v L.length (spots L) ∧ Cur wx g K ∧ Oth g w wx
theorem keepB {w w' : World} {g b : Nat} {u v : Value} (h : Oth g w w') (hS : w.cell? ⟨b, 0, none⟩ = some u ∧ w.cell? ⟨b, 1, none⟩ = some v) (hb : b ≠ g) : w'.cell? ⟨b, 0, none⟩ = some u ∧ w'.cell? ⟨b, 1, none⟩ = some v := by
  have hl : b < w.heap.size := World.block_lt_of_cell? w _ hS.1
  exact ⟨(World.cell?_of_block (a := ⟨b, 0, none⟩) (h.block b hl hb)).trans hS.1, (World.cell?_of_block (a := ⟨b, 1, none⟩) (h.block b hl hb)).trans hS.2⟩
theorem keepD {w : World} {o : Obj} {p1 p2 : Addr} {v1 v2 : Value} (h : w.cell? p1 = some v1 ∧ w.cell? p2 = some v2) : (w.alloc o).cell? p1 = some v1 ∧ (w.alloc o).cell? p2 = some v2 := keep2 ((Below.refl _ _).alloc (Nat.le_refl _) _) h
theorem keepE {w : World} {p1 p2 : Addr} {v1 v2 : Value} (h : w.cell? p1 = some v1 ∧ w.cell? p2 = some v2) : w.drew.cell? p1 = some v1 ∧ w.drew.cell? p2 = some v2 := h
theorem keepC {w : World} {o : Obj} {p1 p2 : Addr} {v1 v2 : Value} (h : w.cell? p1 = some v1 ∧ w.cell? p2 = some v2) : (w.alloc o).drew.cell? p1 = some v1 ∧ (w.alloc o).drew.cell? p2 = some v2 := keepD h
theorem keepP {w : World} {b q : Nat} {u v x y : Value} (h : w.cell? ⟨b, 0, none⟩ = some u ∧ w.cell? ⟨b, 1, none⟩ = some v) (hne : b ≠ q) : ((w.setCell ⟨q, 0, none⟩ x).setCell ⟨q, 1, none⟩ y).cell? ⟨b, 0, none⟩ = some u ∧ ((w.setCell ⟨q, 0, none⟩ x).setCell ⟨q, 1, none⟩ y).cell? ⟨b, 1, none⟩ = some v := by
  have e : ((w.setCell ⟨q, 0, none⟩ x).setCell ⟨q, 1, none⟩ y).heap[b]? = w.heap[b]? := (heap_setCell_other _ ⟨q, 1, none⟩ b y hne).trans (heap_setCell_other _ ⟨q, 0, none⟩ b x hne)
  exact ⟨(World.cell?_of_block (a := ⟨b, 0, none⟩) e).trans h.1, (World.cell?_of_block (a := ⟨b, 1, none⟩) e).trans h.2⟩
theorem blk_new {w : World} {cs : Array Value} {t : TypeId} {b : Nat} (h : b = w.heap.size) : Blk (w.alloc (.cells cs t)) b cs t := by subst h; exact Blk.new _ _ _
theorem cur_drew {w : World} {g k : Nat} (h : Cur w g k) : Cur w.drew g k := h
theorem ownAlloc {w : World} {base : Nat} {e : TypeId} {size : Nat} {v : Value} {n : Nat} {xs : List Value} {o : Obj} (h : w.ownsRow base e size v n xs) : (w.alloc o).ownsRow base e size v n xs := own_below h ((Below.refl _ _).alloc (Nat.le_refl _) o)
theorem own_other {w : World} {base : Nat} {e : TypeId} {size : Nat} {v u : Value} {n : Nat} {xs : List Value} {p : Addr} (h : w.ownsRow base e size v n xs) (hne : ∀ j, v.ownBlock = some j → j ≠ p.block) : (w.setCell p u).ownsRow base e size v n xs := by
  refine ⟨h.1, ?_⟩
  rcases h.2 with h2 | ⟨k, cap, cur, h2, h3, h4, h5⟩
  · exact .inl h2
  · exact .inr ⟨k, cap, cur, h2, h3, (heap_setCell_other w p k u (hne k (by rw [h2]; rfl))).trans h4, h5⟩
end Go.Proofs.YtdmgffcabjpihaaGreatDoor
