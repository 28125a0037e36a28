/-
  More on rows that calls have made: sheets handed in; charts and counts handed back.
-/
import Derived.Test.YtbgbcajcajaocaaCog
namespace Go.Proofs.Ytbgbcajcajaocaa
open Go.RowKit Go.Sort

theorem SOwn.low {w w' : World} {B lo hi : Nat} {A : Option Addr} {c n : Nat} {L : List Shd} (h : SOwn w lo hi A c n L) (hb : Below B w w') (hB : hi ≤ B) : SOwn w' lo hi A c n L :=
  h.same hb.size (fun b _ hbh => hb.block b (by omega))
/-- What the sheets handed in hold: blocks below B. -/
structure AS (w : World) (B : Nat) (A : Option Addr) (L : List Shd) : Prop where
  grid : SGrid w A L
  mlt : ∀ b o, A = some ⟨b, o, none⟩ → L ≠ [] → b < B
  rlt : ∀ (k : Nat) (a : Shd), L[k]? = some a → ∀ b o, a.h.A = some ⟨b, o, none⟩ → a.h.L ≠ [] → b < B
  sz : B ≤ w.heap.size
theorem AS.mk_ {w : World} {A : Option Addr} {L : List Shd} (h : SGrid w A L) : AS w w.heap.size A L :=
  ⟨h, fun b o e hne => (AM.mk_ h.mem).lt b o e (fun e2 => hne (List.eq_nil_of_length_eq_zero (show L.length = 0 by
    have h9 : L.length * 4 = 0 := (by rw [← shs_len, e2]; rfl)
    omega))),
   fun k x hx b o e hne => (AM.mk_ (h.row k x hx)).lt b o e (fun e2 => hne (List.eq_nil_of_length_eq_zero (show x.h.L.length = 0 by
    have h9 : x.h.L.length * 3 = 0 := (by rw [← rows_len, e2]; rfl)
    omega))), Nat.le_refl _⟩
theorem AS.low {w w' : World} {B C : Nat} {A : Option Addr} {L : List Shd} (h : AS w B A L) (hb : Below C w w') (hC : B ≤ C) : AS w' B A L :=
  ⟨⟨mem_low h.grid.mem hb (fun b o e hne => Nat.lt_of_lt_of_le (h.mlt b o e (fun e2 => hne (by rw [e2]; rfl))) hC), fun k x hx => mem_low (h.grid.row k x hx) hb (fun b o e hne => Nat.lt_of_lt_of_le (h.rlt k x hx b o e (fun e2 => hne (by rw [e2]; rfl))) hC)⟩, h.mlt, h.rlt, Nat.le_trans h.sz hb.size⟩
theorem AS.below {w w' : World} {B : Nat} {A : Option Addr} {L : List Shd} (h : AS w B A L) (hb : Below w.heap.size w w') : AS w' B A L := h.low hb h.sz
/-- The counts' block is none of the charts'. -/
def NG (A : Option Addr) (c n : Nat) (hs : List (Hdr Sp)) (v : Value) : Prop := ∀ b, v.ownBlock = some b → (Value.slice A n c).ownBlock ≠ some b ∧ ∀ (k : Nat) (h : Hdr Sp), hs[k]? = some h → (hv h).ownBlock ≠ some b
theorem CI.gown {w : World} {base n : Nat} {A : Option Addr} {c : Nat} {hs : List (Hdr Sp)} {vi : Value} {C : List Int} (h : CI w base (.slice A n c) n hs vi C) : GOwn w base w.heap.size A c n hs (rowOf hs) :=
  ⟨h.len, h.own, fun b hb => (h.own.lt b hb).2, fun k x hx => ⟨by rw [rowOf_at hx]; exact (h.row k x hx).1, fun b hb => ⟨((h.row k x hx).1.lt b hb).2, ((h.row k x hx).2 b hb).1⟩⟩, h.apart, Nat.le_refl _⟩
theorem CI.ng {w : World} {base n : Nat} {A : Option Addr} {c : Nat} {hs : List (Hdr Sp)} {vi : Value} {C : List Int} (h : CI w base (.slice A n c) n hs vi C) : NG A c n hs vi :=
  fun b hb => ⟨h.ne b hb, fun k x hx e => ((h.row k x hx).2 b e).2 hb⟩
theorem RO.keepB {w w' : World} {lo hi : Nat} {e : TypeId} {sz : Nat} {A : Option Addr} {c n : Nat} {xs : List Value} (h : RO w lo hi e sz A c n xs) (hz : w.heap.size ≤ w'.heap.size) (hb : ∀ b, (Value.slice A n c).ownBlock = some b → w'.heap[b]? = w.heap[b]?) : RO w' lo hi e sz A c n xs :=
  ⟨own_same h.own hb, h.top, Nat.le_trans h.sz_ hz⟩
theorem GOwn.keepB {w w' : World} {lo hi : Nat} {A : Option Addr} {c n : Nat} {hs : List (Hdr Sp)} {M : Nat → List Sp} (h : GOwn w lo hi A c n hs M) (hz : w.heap.size ≤ w'.heap.size) (hb : ∀ b, b < w.heap.size → ((Value.slice A n c).ownBlock = some b ∨ ∃ (k : Nat) (x : Hdr Sp), hs[k]? = some x ∧ (hv x).ownBlock = some b) → w'.heap[b]? = w.heap[b]?) : GOwn w' lo hi A c n hs M :=
  ⟨h.len, own_same h.own (fun g hg => hb g (h.own.lt g hg).2 (.inl hg)), h.top, fun k x hx => ⟨own_same (h.row k x hx).1 (fun g hg => hb g ((h.row k x hx).1.lt g hg).2 (.inr ⟨k, x, hx, hg⟩)), (h.row k x hx).2⟩, h.apart, Nat.le_trans h.sz hz⟩
end Go.Proofs.Ytbgbcajcajaocaa
