/-
  Sheets that a call puts together in memory.
-/
import Derived.Test.YtbgbcajcajaocaaDsa
import Derived.Test.YtbgbcajcajaocaaCoi
namespace Go.Proofs.Ytbgbcajcajaocaa
open Go.RowKit Go.Sort

/-- Sheets (value vo) that the call puts together: all rows apart. -/
structure SI (w : World) (base : Nat) (vo : Value) (n : Nat) (Ls : List Shd) : Prop where
  len : Ls.length = n
  own : w.ownsRow base 29 4 vo n (shs Ls)
  row : ∀ (k : Nat) (a : Shd), Ls[k]? = some a → w.ownsRow base 83 3 (.slice a.h.A a.h.L.length a.h.c) a.h.L.length (rows a.h.L) ∧ ∀ b, (hvr a.h).ownBlock = some b → vo.ownBlock ≠ some b
  apart : ∀ (i j : Nat) (a a' : Shd), i ≠ j → Ls[i]? = some a → Ls[j]? = some a' → ∀ b, (hvr a.h).ownBlock = some b → (hvr a'.h).ownBlock ≠ some b
section
variable {w w' w1 : World} {base n : Nat} {vo : Value} {Ls : List Shd}
theorem SI.nil (w : World) (base : Nat) : SI w base (.slice none 0 0) 0 [] :=
  ⟨rfl, World.ownsRow_nil _ _ _ _, fun k h e => by simp at e, fun i j h h' _ e => by simp at e⟩
theorem SI.same (h : SI w base vo n Ls) (hb : ∀ b, base ≤ b → b < w.heap.size → w'.heap[b]? = w.heap[b]?) : SI w' base vo n Ls :=
  ⟨h.len, own_same h.own (fun g hg => hb g (h.own.lt g hg).1 (h.own.lt g hg).2), fun k x hx => ⟨own_same (h.row k x hx).1 (fun g hg => hb g ((h.row k x hx).1.lt g hg).1 ((h.row k x hx).1.lt g hg).2), (h.row k x hx).2⟩, h.apart⟩
theorem SI.below (h : SI w base vo n Ls) (hb : Below w.heap.size w w') : SI w' base vo n Ls := h.same (fun b _ hbh => hb.block b hbh)
theorem SI.oth {g : Nat} (h : SI w base vo n Ls) (ho : Oth g w w') (hg : g < base) : SI w' base vo n Ls := h.same (fun b hb hlt => ho.block b hlt (by omega))
/-- One sheet more. -/
theorem SI.snoc {v' : Value} {x : Shd} (hc : SI w base vo n Ls) (hx : w.ownsRow base 83 3 (.slice x.h.A x.h.L.length x.h.c) x.h.L.length (rows x.h.L)) (hxo : ∀ b, (hvr x.h).ownBlock = some b → vo.ownBlock ≠ some b ∧ ∀ (k : Nat) (a : Shd), Ls[k]? = some a → (hvr a.h).ownBlock ≠ some b)
    (ho : w1.ownsRow base 29 4 v' (n + 1) (shs Ls ++ [.int .i64 x.p, .int .i64 x.s.x, .int .i64 x.s.y, .slice x.h.A x.h.L.length x.h.c]))
    (hkeep : ∀ j, j < w.heap.size → vo.ownBlock ≠ some j → w1.heap[j]? = w.heap[j]? ∧ v'.ownBlock ≠ some j) : SI w1 base v' (n + 1) (Ls ++ [x]) := by
  refine ⟨by rw [List.length_append, hc.len]; rfl, by have e : shs (Ls ++ [x]) = shs Ls ++ [.int .i64 x.p, .int .i64 x.s.x, .int .i64 x.s.y, .slice x.h.A x.h.L.length x.h.c] := by simp [shs]
                                                      rw [e]; exact ho, fun k y hy => ?_, fun i j y z hij hi hj b hb => ?_⟩
  · rcases get_snoc hy with hy | ⟨_, rfl⟩
    · have h3 := hc.row k y hy
      exact ⟨own_same h3.1 (fun g hg => (hkeep g (h3.1.lt g hg).2 (h3.2 g hg)).1), fun b hb => (hkeep b (h3.1.lt b hb).2 (h3.2 b hb)).2⟩
    · exact ⟨own_same hx (fun g hg => (hkeep g (hx.lt g hg).2 (hxo g hg).1).1), fun b hb => (hkeep b (hx.lt b hb).2 (hxo b hb).1).2⟩
  · rcases get_snoc hi with g1 | ⟨g1, g3⟩ <;> rcases get_snoc hj with g2 | ⟨g2, g4⟩
    · exact hc.apart i j y z hij g1 g2 b hb
    · subst g4
      exact fun e => (hxo b e).2 i y g1 hb
    · subst g3
      exact (hxo b hb).2 j z g2
    · omega
theorem SI.grid {A : Option Addr} {c : Nat} (h : SI w base (.slice A n c) n Ls) : SGrid w A Ls := ⟨Mem.of_own h.own, fun k x hx => Mem.of_own (h.row k x hx).1⟩
/-- A cell of the outer slice set anew. -/
theorem SI.put {go c j : Nat} {v : Value} {Ls' : List Shd} (hc : SI w base (.slice (some ⟨go, 0, none⟩) n c) n Ls) (hs : shs Ls' = (shs Ls).set j v) (hl : Ls'.length = Ls.length) (hr : ∀ (k : Nat) (a : Shd), Ls'[k]? = some a → ∃ a0, Ls[k]? = some a0 ∧ a.h = a0.h) :
    SI (w.setCell ⟨go, j, none⟩ v) base (.slice (some ⟨go, 0, none⟩) n c) n Ls' := by
  refine ⟨by rw [hl, hc.len], by rw [hs]; exact (hc.own.stored j v).1, fun k x hx => ?_, fun i j x y hij hi hj b hb => ?_⟩
  · obtain ⟨a0, h0, e⟩ := hr k x hx
    rw [e]
    have h3 := hc.row k a0 h0
    exact ⟨own_same h3.1 (fun g hg => heap_setCell_other _ _ _ _ (fun e => (h3.2 g hg) (by subst e; rfl))), h3.2⟩
  · obtain ⟨a0, h0, e⟩ := hr i x hi
    obtain ⟨a1, h1, e1⟩ := hr j y hj
    rw [e] at hb
    rw [e1]
    exact hc.apart i j a0 a1 hij h0 h1 b hb
theorem shs_cell {L : List Shd} {k : Nat} {a : Shd} (h : L[k]? = some a) (i : Nat) (hi : i < 4) : (shs L)[k * 4 + i]? = [Value.int .i64 a.p, Value.int .i64 a.s.x, Value.int .i64 a.s.y, Value.slice a.h.A a.h.L.length a.h.c][i]? :=
  flat_get (fun a : Shd => [Value.int .i64 a.p, Value.int .i64 a.s.x, Value.int .i64 a.s.y, Value.slice a.h.A a.h.L.length a.h.c]) 4 (fun _ => rfl) L k a h i hi
theorem set_same {α : Type} {L : List α} {k : Nat} {a : α} (h : L[k]? = some a) : L.set k a = L := by
  apply List.ext_getElem?
  intro j
  by_cases e : j = k
  · subst e; rw [List.getElem?_set_self (List.getElem?_eq_some_iff.1 h).1, h]
  · rw [List.getElem?_set_ne (fun e2 => e e2.symm)]
theorem shs_setP {L : List Shd} {k : Nat} {a : Shd} (hk : L[k]? = some a) (p : Int) : shs (L.set k ⟨p, a.s, a.h⟩) = (shs L).set (k * 4) (.int .i64 p) := by
  have h1 := shs_cell hk 1 (by omega)
  have h2 := shs_cell hk 2 (by omega)
  rw [shs_set3 hk p a.s.x a.s.y]
  rw [set_same (L := ((shs L).set (k * 4) (.int .i64 p)).set (k * 4 + 1) (.int .i64 a.s.x)) (by rw [List.getElem?_set_ne (by omega), List.getElem?_set_ne (by omega)]; exact h2)]
  exact set_same (by rw [List.getElem?_set_ne (by omega)]; exact h1)
theorem shs_setS {L : List Shd} {k : Nat} {a : Shd} (hk : L[k]? = some a) (x y : Int) : shs (L.set k ⟨a.p, ⟨x, y⟩, a.h⟩) = ((shs L).set (k * 4 + 1) (.int .i64 x)).set (k * 4 + 2) (.int .i64 y) := by
  have h0 := shs_cell hk 0 (by omega)
  rw [shs_set3 hk a.p x y]
  rw [set_same (L := shs L) (k := k * 4) h0]
theorem shs_setH {L : List Shd} {k : Nat} {a : Shd} (hk : L[k]? = some a) (h : Hdr Rw) : shs (L.set k ⟨a.p, a.s, h⟩) = (shs L).set (k * 4 + 3) (.slice h.A h.L.length h.c) := by
  have h0 := shs_cell hk 0 (by omega)
  have h1 := shs_cell hk 1 (by omega)
  have h2 := shs_cell hk 2 (by omega)
  rw [shs_set]
  show ((((shs L).set (k * 4) (.int .i64 a.p)).set (k * 4 + 1) (.int .i64 a.s.x)).set (k * 4 + 2) (.int .i64 a.s.y)).set (k * 4 + 3) _ = _
  rw [set_same (L := shs L) (k := k * 4) h0, set_same (L := shs L) (k := k * 4 + 1) h1, set_same (L := shs L) (k := k * 4 + 2) h2]
theorem set_hdr {L : List Shd} {k : Nat} {a x : Shd} (hk : L[k]? = some a) (hx : x.h = a.h) : ∀ (j : Nat) (y : Shd), (L.set k x)[j]? = some y → ∃ a0, L[j]? = some a0 ∧ y.h = a0.h := fun j y hy => by
  by_cases e : j = k
  · subst e
    rw [List.getElem?_set_self (List.getElem?_eq_some_iff.1 hk).1] at hy
    obtain rfl := Option.some.inj hy
    exact ⟨a, hk, hx⟩
  · rw [List.getElem?_set_ne (fun e2 => e e2.symm)] at hy
    exact ⟨y, hy, rfl⟩
theorem SI.putP {go c k : Nat} {a : Shd} (hc : SI w base (.slice (some ⟨go, 0, none⟩) n c) n Ls) (hk : Ls[k]? = some a) (p : Int) : SI (w.setCell ⟨go, k * 4, none⟩ (.int .i64 p)) base (.slice (some ⟨go, 0, none⟩) n c) n (Ls.set k ⟨p, a.s, a.h⟩) :=
  hc.put (shs_setP hk p) List.length_set (set_hdr hk rfl)
theorem SI.putS {go c k : Nat} {a : Shd} (hc : SI w base (.slice (some ⟨go, 0, none⟩) n c) n Ls) (hk : Ls[k]? = some a) (x y : Int) : SI ((w.setCell ⟨go, k * 4 + 1, none⟩ (.int .i64 x)).setCell ⟨go, k * 4 + 2, none⟩ (.int .i64 y)) base (.slice (some ⟨go, 0, none⟩) n c) n (Ls.set k ⟨a.p, ⟨x, y⟩, a.h⟩) := by
  have hl := (List.getElem?_eq_some_iff.1 hk).1
  have e1 : shs (Ls.set k ⟨a.p, ⟨x, a.s.y⟩, a.h⟩) = (shs Ls).set (k * 4 + 1) (.int .i64 x) := by
    rw [shs_setS hk x a.s.y]
    exact set_same (by rw [List.getElem?_set_ne (by omega)]; exact shs_cell hk 2 (by omega))
  have h1 := hc.put e1 List.length_set (set_hdr hk rfl)
  refine h1.put ?_ (by rw [List.length_set, List.length_set]) (fun j z hz => ?_)
  · rw [shs_setS hk x y, e1]
  · obtain ⟨a0, g1, g2⟩ := set_hdr (x := ⟨a.p, ⟨x, y⟩, a.h⟩) hk rfl j z hz
    by_cases e : j = k
    · subst e
      rw [hk] at g1
      obtain rfl := Option.some.inj g1
      exact ⟨⟨a.p, ⟨x, a.s.y⟩, a.h⟩, List.getElem?_set_self hl, g2⟩
    · exact ⟨a0, by rw [List.getElem?_set_ne (fun e2 => e e2.symm)]; exact g1, g2⟩
/-- The k-th sheet's rows but the first. -/
theorem Mem.rows_tail {b q : Nat} {L : List Rw} (h : Mem w (some ⟨b, q, none⟩) (rows L)) : Mem w (some ⟨b, q + 3, none⟩) (rows L.tail) := fun hne => by
  cases L with
  | nil => exact absurd rfl hne
  | cons r L =>
    obtain ⟨b', off, e, hc⟩ := h (by simp [rows])
    obtain ⟨e1, e2, _⟩ := Addr.mk.inj (Option.some.inj e)
    subst e1 e2
    refine ⟨b, q + 3, rfl, fun j u hu => ?_⟩
    have := hc (j + 3) u (by simpa [rows] using hu)
    rw [show q + 3 + j = q + (j + 3) by omega]
    exact this
theorem SI.tail {go c k gr : Nat} {a : Shd} (hc : SI w base (.slice (some ⟨go, 0, none⟩) n c) n Ls) (hk : Ls[k]? = some a) (hA : a.h.A = some ⟨gr, 0, none⟩) (c' : Nat) :
    SGrid (w.setCell ⟨go, k * 4 + 3, none⟩ (.slice (some ⟨gr, 3, none⟩) (a.h.L.length - 1) c')) (some ⟨go, 0, none⟩) (Ls.set k ⟨a.p, a.s, ⟨some ⟨gr, 3, none⟩, c', a.h.L.tail⟩⟩) := by
  refine ⟨?_, fun j y hy => ?_⟩
  · rw [shs_setH hk, show (⟨some ⟨gr, 3, none⟩, c', a.h.L.tail⟩ : Hdr Rw).L.length = a.h.L.length - 1 from List.length_tail]
    exact Mem.of_own (hc.own.stored (k * 4 + 3) _).1
  · by_cases e : j = k
    · subst e
      rw [List.getElem?_set_self (List.getElem?_eq_some_iff.1 hk).1] at hy
      obtain rfl := Option.some.inj hy
      have h3 := hc.row j a hk
      have h4 := Mem.of_own (own_same (w' := w.setCell ⟨go, j * 4 + 3, none⟩ (.slice (some ⟨gr, 3, none⟩) (a.h.L.length - 1) c')) h3.1 (fun g hg => heap_setCell_other _ _ _ _ (fun e => (h3.2 g hg) (by subst e; rfl))))
      rw [hA] at h4
      exact Mem.rows_tail h4
    · rw [List.getElem?_set_ne (fun e2 => e e2.symm)] at hy
      have h3 := hc.row j y hy
      exact Mem.of_own (own_same h3.1 (fun g hg => heap_setCell_other _ _ _ _ (fun e => (h3.2 g hg) (by subst e; rfl))))
theorem SI.tail1 {go c k gr : Nat} {a : Shd} (hc : SI w base (.slice (some ⟨go, 0, none⟩) n c) n Ls) (hk : Ls[k]? = some a) (hl : a.h.L.length ≤ 1) :
    SGrid (w.setCell ⟨go, k * 4 + 3, none⟩ (.slice (some ⟨gr, 0, none⟩) (a.h.L.length - 1) 0)) (some ⟨go, 0, none⟩) (Ls.set k ⟨a.p, a.s, ⟨some ⟨gr, 0, none⟩, 0, []⟩⟩) := by
  refine ⟨?_, fun j y hy => ?_⟩
  · rw [shs_setH hk, show (⟨some ⟨gr, 0, none⟩, 0, []⟩ : Hdr Rw).L.length = a.h.L.length - 1 from by show 0 = _; omega]
    exact Mem.of_own (hc.own.stored (k * 4 + 3) _).1
  · by_cases e : j = k
    · subst e
      rw [List.getElem?_set_self (List.getElem?_eq_some_iff.1 hk).1] at hy
      obtain rfl := Option.some.inj hy
      exact fun h => absurd rfl h
    · rw [List.getElem?_set_ne (fun e2 => e e2.symm)] at hy
      have h3 := hc.row j y hy
      exact Mem.of_own (own_same h3.1 (fun g hg => heap_setCell_other _ _ _ _ (fun e => (h3.2 g hg) (by subst e; rfl))))
theorem SI.putC {go c k gr : Nat} {a : Shd} {r : Rw} (hc : SI w base (.slice (some ⟨go, 0, none⟩) n c) n Ls) (hk : Ls[k]? = some a) (hA : a.h.A = some ⟨gr, 0, none⟩) (h0 : a.h.L[0]? = some r) (x : Int) :
    SGrid (w.setCell ⟨gr, 0, none⟩ (.int .i64 x)) (some ⟨go, 0, none⟩) (Ls.set k ⟨a.p, a.s, ⟨a.h.A, a.h.c, a.h.L.set 0 ⟨x, r.t⟩⟩⟩) := by
  have hb : (hvr a.h).ownBlock = some gr := by rw [hvr, hA]; rfl
  refine ⟨?_, fun j y hy => ?_⟩
  · rw [shs_setH hk, show (⟨a.h.A, a.h.c, a.h.L.set 0 ⟨x, r.t⟩⟩ : Hdr Rw).L.length = a.h.L.length from List.length_set, set_same (L := shs Ls) (k := k * 4 + 3) (shs_cell hk 3 (by omega))]
    exact Mem.of_own (own_same hc.own (fun g hg => heap_setCell_other _ _ _ _ (fun e => (hc.row k a hk).2 gr hb (by subst e; exact hg))))
  · by_cases e : j = k
    · subst e
      rw [List.getElem?_set_self (List.getElem?_eq_some_iff.1 hk).1] at hy
      obtain rfl := Option.some.inj hy
      have h3 := (hc.row j a hk).1
      rw [hA] at h3
      have h4 := (h3.stored 0 (.int .i64 x)).1
      rw [← rows_set0 h0] at h4
      show Mem _ a.h.A (rows (a.h.L.set 0 ⟨x, r.t⟩))
      rw [hA]
      exact Mem.of_own h4
    · rw [List.getElem?_set_ne (fun e2 => e e2.symm)] at hy
      have h3 := hc.row j y hy
      exact Mem.of_own (own_same h3.1 (fun g hg => heap_setCell_other _ _ _ _ (fun e2 => hc.apart k j a y (fun e3 => e e3.symm) hk hy gr hb (by subst e2; exact hg))))
end
end Go.Proofs.Ytbgbcajcajaocaa
