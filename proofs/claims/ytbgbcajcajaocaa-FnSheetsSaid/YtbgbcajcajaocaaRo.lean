/-
  Rows that a call has made, in blocks lo .. hi: what keeps them.
-/
import Derived.Test.YtbgbcajcajaocaaGrl
import Derived.Test.YtbgbcajcajaocaaSht
namespace Go.Proofs.Ytbgbcajcajaocaa
open Go.RowKit Go.Sort

structure RO (w : World) (lo hi : Nat) (e : TypeId) (sz : Nat) (A : Option Addr) (c n : Nat) (xs : List Value) : Prop where
  own : w.ownsRow lo e sz (.slice A n c) n xs
  top : ∀ b, (Value.slice A n c).ownBlock = some b → b < hi
  sz_ : hi ≤ w.heap.size
theorem RO.mk_ {w' : World} {base : Nat} {e : TypeId} {sz : Nat} {A : Option Addr} {c n : Nat} {xs : List Value} (h : w'.ownsRow base e sz (.slice A n c) n xs) : RO w' base w'.heap.size e sz A c n xs := ⟨h, fun b hb => (h.lt b hb).2, Nat.le_refl _⟩
theorem RO.same {w w' : World} {lo hi : Nat} {e : TypeId} {sz : Nat} {A : Option Addr} {c n : Nat} {xs : List Value} (h : RO w lo hi e sz A c n xs) (hz : w.heap.size ≤ w'.heap.size) (hb : ∀ b, lo ≤ b → b < hi → w'.heap[b]? = w.heap[b]?) : RO w' lo hi e sz A c n xs :=
  ⟨own_same h.own (fun g hg => hb g (h.own.lt g hg).1 (h.top g hg)), h.top, Nat.le_trans h.sz_ hz⟩
theorem RO.below {w w' : World} {lo hi : Nat} {e : TypeId} {sz : Nat} {A : Option Addr} {c n : Nat} {xs : List Value} (h : RO w lo hi e sz A c n xs) (hb : Below w.heap.size w w') : RO w' lo hi e sz A c n xs :=
  h.same hb.size (fun b _ hbh => hb.block b (by have := h.sz_; omega))
theorem RO.low {w w' : World} {B lo hi : Nat} {e : TypeId} {sz : Nat} {A : Option Addr} {c n : Nat} {xs : List Value} (h : RO w lo hi e sz A c n xs) (hb : Below B w w') (hB : hi ≤ B) : RO w' lo hi e sz A c n xs :=
  h.same hb.size (fun b _ hbh => hb.block b (by omega))
theorem RO.high {w w' : World} {H lo hi : Nat} {e : TypeId} {sz : Nat} {A : Option Addr} {c n : Nat} {xs : List Value} (h : RO w lo hi e sz A c n xs) (hz : w.heap.size ≤ w'.heap.size) (hh : ∀ b, H ≤ b → b < w.heap.size → w'.heap[b]? = w.heap[b]?) (hH : H ≤ lo) : RO w' lo hi e sz A c n xs :=
  h.same hz (fun b hb hbh => hh b (by omega) (by have := h.sz_; omega))
theorem RO.grown {w w' : World} {lo hi : Nat} {e : TypeId} {sz : Nat} {A : Option Addr} {c n : Nat} {xs : List Value} {row : Option Nat} (h : RO w lo hi e sz A c n xs) (hg : w.grownBy w' row) (hr : ∀ k, row = some k → k < lo ∨ hi ≤ k) : RO w' lo hi e sz A c n xs :=
  h.same hg.size (fun b hb hbh => hg.block b (by have := h.sz_; omega) (fun e => by have := hr b e.symm; omega))
theorem RO.mem {w : World} {lo hi : Nat} {e : TypeId} {sz : Nat} {A : Option Addr} {c n : Nat} {xs : List Value} (h : RO w lo hi e sz A c n xs) : Mem w A xs := Mem.of_own h.own
theorem RO.cap {w : World} {lo hi : Nat} {e : TypeId} {sz : Nat} {A : Option Addr} {c n : Nat} {xs : List Value} (h : RO w lo hi e sz A c n xs) : n ≤ c := own_capG h.own
theorem GOwn.high {w w' : World} {H lo hi : Nat} {A : Option Addr} {c n : Nat} {hs : List (Hdr Sp)} {M : Nat → List Sp} (h : GOwn w lo hi A c n hs M) (hz : w.heap.size ≤ w'.heap.size) (hh : ∀ b, H ≤ b → b < w.heap.size → w'.heap[b]? = w.heap[b]?) (hH : H ≤ lo) : GOwn w' lo hi A c n hs M :=
  h.same hz (fun b hb hbh => hh b (by omega) (by have := h.sz; omega))
theorem GOwn.low {w w' : World} {B lo hi : Nat} {A : Option Addr} {c n : Nat} {hs : List (Hdr Sp)} {M : Nat → List Sp} (h : GOwn w lo hi A c n hs M) (hb : Below B w w') (hB : hi ≤ B) : GOwn w' lo hi A c n hs M := h.belowB hb hB
theorem GOwn.grown {w w' : World} {lo hi : Nat} {A : Option Addr} {c n : Nat} {hs : List (Hdr Sp)} {M : Nat → List Sp} {row : Option Nat} (h : GOwn w lo hi A c n hs M) (hg : w.grownBy w' row) (hr : ∀ k, row = some k → k < lo ∨ hi ≤ k) : GOwn w' lo hi A c n hs M :=
  h.same hg.size (fun b hb hbh => hg.block b (by have := h.sz; omega) (fun e => by have := hr b e.symm; omega))
/-- A box: a block that may be written. -/
structure Bx (w : World) (g : Nat) (cs : Array Value) (t : TypeId) : Prop where
  blk : Blk w g cs t
theorem Bx.below {w w' : World} {g : Nat} {cs : Array Value} {t : TypeId} (h : Bx w g cs t) (hb : Below w.heap.size w w') : Bx w' g cs t := ⟨h.blk.below hb h.blk.lt⟩
theorem Bx.low {w w' : World} {B g : Nat} {cs : Array Value} {t : TypeId} (h : Bx w g cs t) (hb : Below B w w') (hg : g < B) : Bx w' g cs t := ⟨h.blk.below hb hg⟩
theorem Bx.high {w w' : World} {H g : Nat} {cs : Array Value} {t : TypeId} (h : Bx w g cs t) (hh : ∀ b, H ≤ b → b < w.heap.size → w'.heap[b]? = w.heap[b]?) (hH : H ≤ g) : Bx w' g cs t := ⟨(hh g hH h.blk.lt).trans h.blk⟩
theorem Bx.grown {w w' : World} {g : Nat} {cs : Array Value} {t : TypeId} {row : Option Nat} (h : Bx w g cs t) (hg : w.grownBy w' row) (hr : ∀ k, row = some k → k ≠ g) : Bx w' g cs t := ⟨(hg.block g h.blk.lt (fun e => hr g e.symm rfl)).trans h.blk⟩
/-- What the arguments hold: blocks below B. -/
structure AG (w : World) (B : Nat) (A : Option Addr) (hs : List (Hdr Sp)) : Prop where
  grid : Grid w A hs
  mlt : ∀ b o, A = some ⟨b, o, none⟩ → hs ≠ [] → b < B
  rlt : ∀ (k : Nat) (h : Hdr Sp), hs[k]? = some h → ∀ b o, h.A = some ⟨b, o, none⟩ → h.L ≠ [] → b < B
  sz : B ≤ w.heap.size
theorem mem_low {w w' : World} {B : Nat} {A : Option Addr} {xs : List Value} (h : Mem w A xs) (hb : Below B w w') (hl : ∀ b o, A = some ⟨b, o, none⟩ → xs ≠ [] → b < B) : Mem w' A xs := fun hne => by
  obtain ⟨b, off, e, hc⟩ := h hne
  exact ⟨b, off, e, fun j u hu => (hb.cell (p := ⟨b, off + j, none⟩) (hl b off e hne)).trans (hc j u hu)⟩
/-- Cells of the arguments: blocks below B. -/
structure AM (w : World) (B : Nat) (A : Option Addr) (xs : List Value) : Prop where
  mem : Mem w A xs
  lt : ∀ b o, A = some ⟨b, o, none⟩ → xs ≠ [] → b < B
  sz : B ≤ w.heap.size
theorem AM.mk_ {w : World} {A : Option Addr} {xs : List Value} (h : Mem w A xs) : AM w w.heap.size A xs := ⟨h, fun b o e hne => by
  obtain ⟨b', o', e', hc⟩ := h hne
  rw [e'] at e
  simp only [Option.some.injEq, Addr.mk.injEq, and_true] at e
  obtain ⟨rfl, rfl⟩ := e
  cases xs with
  | nil => exact absurd rfl hne
  | cons x xs => exact World.block_lt_of_cell? w _ (hc 0 x rfl), Nat.le_refl _⟩
theorem AM.low {w w' : World} {B C : Nat} {A : Option Addr} {xs : List Value} (h : AM w B A xs) (hb : Below C w w') (hC : B ≤ C) : AM w' B A xs :=
  ⟨mem_low h.mem hb (fun b o e hne => Nat.lt_of_lt_of_le (h.lt b o e hne) hC), h.lt, Nat.le_trans h.sz hb.size⟩
theorem AM.below {w w' : World} {B : Nat} {A : Option Addr} {xs : List Value} (h : AM w B A xs) (hb : Below w.heap.size w w') : AM w' B A xs := h.low hb h.sz
theorem AG.mk_ {w : World} {A : Option Addr} {hs : List (Hdr Sp)} (h : Grid w A hs) : AG w w.heap.size A hs :=
  ⟨h, fun b o e hne => (AM.mk_ h.mem).lt b o e (fun e2 => hne (by have := congrArg List.length e2; rw [hcs_len] at this; exact List.eq_nil_of_length_eq_zero this)),
   fun k x hx b o e hne => (AM.mk_ (h.row k x hx)).lt b o e (fun e2 => hne (List.eq_nil_of_length_eq_zero (show x.L.length = 0 by
    have h9 : x.L.length * 2 = 0 := (by rw [← spots_len, e2]; rfl)
    omega))), Nat.le_refl _⟩
theorem AG.low {w w' : World} {B C : Nat} {A : Option Addr} {hs : List (Hdr Sp)} (h : AG w B A hs) (hb : Below C w w') (hC : B ≤ C) : AG w' B A hs :=
  ⟨⟨mem_low h.grid.mem hb (fun b o e hne => Nat.lt_of_lt_of_le (h.mlt b o e (fun e2 => hne (by rw [e2]; rfl))) hC), fun k x hx => mem_low (h.grid.row k x hx) hb (fun b o e hne => Nat.lt_of_lt_of_le (h.rlt k x hx b o e (fun e2 => hne (by rw [e2]; rfl))) hC)⟩, h.mlt, h.rlt, Nat.le_trans h.sz hb.size⟩
theorem AG.below {w w' : World} {B : Nat} {A : Option Addr} {hs : List (Hdr Sp)} (h : AG w B A hs) (hb : Below w.heap.size w w') : AG w' B A hs := h.low hb h.sz
/-- The world at hand against the first one. -/
structure BB_ (W w : World) : Prop where
  bel : Below W.heap.size W w
theorem BB_.below {W w w' : World} (h : BB_ W w) (hb : Below w.heap.size w w') : BB_ W w' := ⟨Below.next hb h.bel h.bel.size⟩
theorem BB_.low {W w w' : World} {C : Nat} (h : BB_ W w) (hb : Below C w w') (hC : W.heap.size ≤ C) : BB_ W w' := ⟨h.bel.trans (hb.mono hC)⟩
theorem BB_.grown {W w w' : World} {row : Option Nat} (h : BB_ W w) (hg : w.grownBy w' row) (hr : ∀ k, row = some k → W.heap.size ≤ k) : BB_ W w' := ⟨below_grown h.bel hg h.bel.size hr⟩
theorem below_alloc (w : World) (o : Obj) : Below w.heap.size w (w.alloc o) := (Below.refl _ _).alloc (Nat.le_refl _) o
theorem low_of_grown {w w' : World} {C : Nat} {row : Option Nat} (hg : w.grownBy w' row) (hC : C ≤ w.heap.size) (hr : ∀ k, row = some k → C ≤ k) : Below C w w' := below_grown (Below.refl _ _) hg hC hr
end Go.Proofs.Ytbgbcajcajaocaa
