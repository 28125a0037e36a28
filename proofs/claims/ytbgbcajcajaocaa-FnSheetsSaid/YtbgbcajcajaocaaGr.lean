/-
  Slices of slices of spots in memory (charts).
-/
import Derived.Test.YtbgbcajcajaocaaCpySp
import Derived.Test.YtbgbcajcajaocaaFrame
import Derived.Test.YtbgbcajcajaocaaKeep
import Derived.Lib.QuietBelow
namespace Go.Proofs.Ytbgbcajcajaocaa
open Go.RowKit Go.Sort Go.Lib

theorem Rd_spots {H : Type} (enc : TypeId × Value → H) (w : World) : Rd enc Try.prog w 66 1 (fun h : Hdr Sp => [Value.slice h.A h.L.length h.c]) (okHdr w (fun s : Sp => [Value.int .i64 s.x, Value.int .i64 s.y]) okSp) :=
  Rd_slice Try.underlying66 (by kernel_rfl) (by omega) (Rd_spot enc w)
/-- A slice's header as a value; headers as cells. -/
def hv {α : Type} (h : Hdr α) : Value := .slice h.A h.L.length h.c
def hcs {α : Type} (hs : List (Hdr α)) : List Value := hs.flatMap fun h => [Value.slice h.A h.L.length h.c]
theorem hcs_len {α : Type} (hs : List (Hdr α)) : (hcs hs).length = hs.length := by rw [hcs, flat_len _ 1 (fun _ => rfl)]; omega
theorem hcs_snoc {α : Type} (hs : List (Hdr α)) (h : Hdr α) : hcs (hs ++ [h]) = hcs hs ++ [Value.slice h.A h.L.length h.c] := by simp [hcs]
theorem hcs_get {α : Type} {hs : List (Hdr α)} {k : Nat} {h : Hdr α} (e : hs[k]? = some h) : (hcs hs)[k]? = some (.slice h.A h.L.length h.c) := by
  have := flat_get (fun h : Hdr α => [Value.slice h.A h.L.length h.c]) 1 (fun _ => rfl) hs k h e 0 (by omega)
  simpa [hcs] using this
theorem hcs_set {α : Type} : ∀ (hs : List (Hdr α)) (k : Nat) (h : Hdr α), hcs (hs.set k h) = (hcs hs).set k (.slice h.A h.L.length h.c)
  | [], _, _ => by simp [hcs]
  | x :: hs, 0, h => by simp [hcs]
  | x :: hs, k + 1, h => by
    have := hcs_set hs k h
    simp only [hcs, List.set_cons_succ, List.flatMap_cons, List.singleton_append] at *
    rw [this]
theorem hdr_cell {α : Type} {w : World} {A : Option Addr} {hs : List (Hdr α)} (h : Mem w A (hcs hs)) {k : Nat} {x : Hdr α} (hk : hs[k]? = some x) :
    ∃ b off, A = some ⟨b, off, none⟩ ∧ w.cell? ⟨b, off + k, none⟩ = some (.slice x.A x.L.length x.c) := by
  obtain ⟨b, off, e, hc⟩ := Mem.elem (sz := 1) (fun _ => rfl) h hk (by omega)
  exact ⟨b, off, e, by simpa using hc 0 _ rfl⟩
/-- Slices of spots that can be read. -/
structure Grid (w : World) (A : Option Addr) (hs : List (Hdr Sp)) : Prop where
  mem : Mem w A (hcs hs)
  row : ∀ (k : Nat) (h : Hdr Sp), hs[k]? = some h → Mem w h.A (spots h.L)
theorem Grid.below {w w' : World} {A : Option Addr} {hs : List (Hdr Sp)} (h : Grid w A hs) (hb : Below w.heap.size w w') : Grid w' A hs :=
  ⟨h.mem.below hb, fun k x hx => (h.row k x hx).below hb⟩
/-- What the rows hold. -/
def lns {α : Type} (hs : List (Hdr α)) : List (List α) := hs.map Hdr.L
theorem lns_len {α : Type} (hs : List (Hdr α)) : (lns hs).length = hs.length := by simp [lns]
theorem lns_at {α : Type} {hs : List (Hdr α)} {k : Nat} {h : Hdr α} (e : hs[k]? = some h) : (lns hs)[k]? = some h.L := by simp [lns, e]
theorem lns_inv {α : Type} {hs : List (Hdr α)} {k : Nat} {L : List α} (e : (lns hs)[k]? = some L) : ∃ h, hs[k]? = some h ∧ h.L = L := by
  simpa [lns] using e
/-- How much the first k rows hold. -/
def totTo {α : Type} (G : List (List α)) : Nat → Nat
  | 0 => 0
  | k + 1 => totTo G k + (G.getD k []).length
theorem totTo_succ {α : Type} {G : List (List α)} {k : Nat} {L : List α} (e : G[k]? = some L) : totTo G (k + 1) = totTo G k + L.length := by simp [totTo, List.getD, e]
theorem totTo_mono {α : Type} (G : List (List α)) {i : Nat} : ∀ j, i ≤ j → totTo G i ≤ totTo G j
  | 0, h => by obtain rfl : i = 0 := by omega
               exact Nat.le_refl _
  | j + 1, h => by
    by_cases e : i = j + 1
    · subst e; exact Nat.le_refl _
    · exact Nat.le_trans (totTo_mono G j (by omega)) (by rw [totTo]; omega)
def tot {α : Type} (G : List (List α)) : Nat := totTo G G.length
theorem tot_row {α : Type} {G : List (List α)} {k : Nat} {L : List α} (e : G[k]? = some L) : totTo G k + L.length ≤ tot G := by
  have h := (List.getElem?_eq_some_iff.1 e).1
  rw [← totTo_succ e]
  exact totTo_mono G _ (by omega)

theorem own_same {w w' : World} {base : Nat} {e : TypeId} {size : Nat} {v : Value} {n : Nat} {xs : List Value} (h : w.ownsRow base e size v n xs) (hs : ∀ g, v.ownBlock = some g → w'.heap[g]? = w.heap[g]?) : w'.ownsRow base e size v n xs := by
  refine ⟨h.1, ?_⟩
  rcases h.2 with h2 | ⟨g, cap, cur, h2, h3, h4, h5⟩
  · exact .inl h2
  · exact .inr ⟨g, cap, cur, h2, h3, (hs g (by rw [h2]; rfl)).trans h4, h5⟩
theorem own_capG {w : World} {base : Nat} {e : TypeId} {size : Nat} {A : Option Addr} {n c : Nat} {xs : List Value} (h : w.ownsRow base e size (.slice A n c) n xs) : n ≤ c := by
  rcases h.2 with ⟨_, h2⟩ | ⟨g, cap, cur, hv, _, _, h3, _⟩
  · omega
  · simp only [Value.slice.injEq] at hv
    omega
/-- n slices of spots that calls have made in the blocks lo .. hi, all apart; hs: the headers; M k: what row k holds. -/
structure GOwn (w : World) (lo hi : Nat) (A : Option Addr) (c n : Nat) (hs : List (Hdr Sp)) (M : Nat → List Sp) : Prop where
  len : hs.length = n
  own : w.ownsRow lo 59 1 (.slice A n c) n (hcs hs)
  top : ∀ b, (Value.slice A n c).ownBlock = some b → b < hi
  row : ∀ (k : Nat) (h : Hdr Sp), hs[k]? = some h → w.ownsRow lo 26 2 (.slice h.A h.L.length h.c) h.L.length (spots (M k)) ∧ ∀ b, (hv h).ownBlock = some b → b < hi ∧ (Value.slice A n c).ownBlock ≠ some b
  apart : ∀ (i j : Nat) (h h' : Hdr Sp), i ≠ j → hs[i]? = some h → hs[j]? = some h' → ∀ b, (hv h).ownBlock = some b → (hv h').ownBlock ≠ some b
  sz : hi ≤ w.heap.size
theorem GOwn.same {w w' : World} {lo hi : Nat} {A : Option Addr} {c n : Nat} {hs : List (Hdr Sp)} {M : Nat → List Sp} (h : GOwn w lo hi A c n hs M) (hz : w.heap.size ≤ w'.heap.size) (hb : ∀ b, lo ≤ b → b < hi → w'.heap[b]? = w.heap[b]?) : GOwn w' lo hi A c n hs M :=
  ⟨h.len, own_same h.own (fun g hg => hb g (h.own.lt g hg).1 (h.top g hg)), h.top, fun k x hx => ⟨own_same (h.row k x hx).1 (fun g hg => hb g ((h.row k x hx).1.lt g hg).1 ((h.row k x hx).2 g hg).1), (h.row k x hx).2⟩, h.apart, Nat.le_trans h.sz hz⟩
theorem GOwn.below {w w' : World} {lo hi : Nat} {A : Option Addr} {c n : Nat} {hs : List (Hdr Sp)} {M : Nat → List Sp} (h : GOwn w lo hi A c n hs M) (hb : Below w.heap.size w w') : GOwn w' lo hi A c n hs M :=
  h.same hb.size (fun b _ hbh => hb.block b (by have := h.sz; omega))
theorem GOwn.belowB {w w' : World} {B lo hi : Nat} {A : Option Addr} {c n : Nat} {hs : List (Hdr Sp)} {M : Nat → List Sp} (h : GOwn w lo hi A c n hs M) (hb : Below B w w') (hB : hi ≤ B) : GOwn w' lo hi A c n hs M :=
  h.same hb.size (fun b _ hbh => hb.block b (by omega))
/-- Row k's own content. -/
def rowOf (hs : List (Hdr Sp)) (k : Nat) : List Sp := (lns hs).getD k []
theorem rowOf_at {hs : List (Hdr Sp)} {k : Nat} {h : Hdr Sp} (e : hs[k]? = some h) : rowOf hs k = h.L := by simp [rowOf, List.getD, lns_at e]
theorem GOwn.grid {w : World} {lo hi : Nat} {A : Option Addr} {c n : Nat} {hs : List (Hdr Sp)} (h : GOwn w lo hi A c n hs (rowOf hs)) : Grid w A hs :=
  ⟨Mem.of_own h.own, fun k x hx => by
    have h1 := (h.row k x hx).1
    rw [rowOf_at hx] at h1
    exact Mem.of_own h1⟩
theorem GOwn.cap {w : World} {lo hi : Nat} {A : Option Addr} {c n : Nat} {hs : List (Hdr Sp)} {M : Nat → List Sp} (h : GOwn w lo hi A c n hs M) (k : Nat) (x : Hdr Sp) (hx : hs[k]? = some x) : x.L.length ≤ x.c := own_capG (h.row k x hx).1
end Go.Proofs.Ytbgbcajcajaocaa
