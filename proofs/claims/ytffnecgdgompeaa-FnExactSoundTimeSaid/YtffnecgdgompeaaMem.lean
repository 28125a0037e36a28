/-
  Slices in memory as lists: 'Mem w A xs': from address A on the cells xs lie in the world w (nothing is asked where xs is empty).
-/
import Derived.Test.YtffnecgdgompeaaPlain
import Derived.WalkKit
import Derived.Below
import Derived.Laws.OwnMore
import Derived.Deep.Draws
namespace Go.Proofs.Ytffnecgdgompeaa
open Go.RowKit

@[simp] theorem size_drew_ (w : World) : w.drew.heap.size = w.heap.size := rfl
@[simp] theorem size_drewN_ (w : World) (n : Nat) : (w.drewN n).heap.size = w.heap.size := rfl
@[simp] theorem size_setCell_ (w : World) (a : Addr) (v : Value) : (w.setCell a v).heap.size = w.heap.size := by simp [World.setCell]
theorem Below.next {B : Nat} {a W w' : World} (hq : Below W.heap.size W w') (h : Below B a W) (hB : B ≤ W.heap.size) : Below B a w' := h.trans (hq.mono hB)
theorem Below.drewN {B : Nat} {a w : World} (h : Below B a w) (n : Nat) : Below B a (w.drewN n) := ⟨h.os, h.tape, h.output, h.size, h.block⟩
theorem bel {W w1 : World} (hb : Below W.heap.size W w1) : W.heap.size ≤ w1.heap.size ∧ (∀ b o, b < W.heap.size → w1.cell? ⟨b, o, none⟩ = W.cell? ⟨b, o, none⟩) ∧ (∀ b o, b < W.heap.size → w1.frozen? ⟨b, o, none⟩ = W.frozen? ⟨b, o, none⟩) :=
  ⟨hb.size, fun b o h => hb.cell (p := ⟨b, o, none⟩) h, fun b o h => hb.frozen (p := ⟨b, o, none⟩) h⟩

theorem keep1 {W w' : World} {p : Addr} {v : Value} (hq : Below W.heap.size W w') (h : W.cell? p = some v) : w'.cell? p = some v := (hq.cell (World.block_lt_of_cell? W _ h)).trans h
theorem keep2 {W w' : World} {p1 p2 : Addr} {v1 v2 : Value} (hq : Below W.heap.size W w') (h : W.cell? p1 = some v1 ∧ W.cell? p2 = some v2) : w'.cell? p1 = some v1 ∧ w'.cell? p2 = some v2 :=
  ⟨keep1 hq h.1, keep1 hq h.2⟩
theorem keep4 {W w' : World} {p1 p2 p3 p4 : Addr} {v1 v2 v3 v4 : Value} (hq : Below W.heap.size W w') (h : W.cell? p1 = some v1 ∧ W.cell? p2 = some v2 ∧ W.cell? p3 = some v3 ∧ W.cell? p4 = some v4) : w'.cell? p1 = some v1 ∧ w'.cell? p2 = some v2 ∧ w'.cell? p3 = some v3 ∧ w'.cell? p4 = some v4 :=
  ⟨keep1 hq h.1, keep1 hq h.2.1, keep1 hq h.2.2.1, keep1 hq h.2.2.2⟩

def Mem (w : World) (A : Option Addr) (xs : List Value) : Prop :=
  xs ≠ [] → ∃ b off, A = some ⟨b, off, none⟩ ∧ ∀ j u, xs[j]? = some u → w.cell? ⟨b, off + j, none⟩ = some u

section
variable {w w' : World} {A : Option Addr} {xs : List Value}
theorem Mem.nil (w : World) (A : Option Addr) : Mem w A [] := fun h => absurd rfl h
theorem Mem.at_ {j : Nat} (h : Mem w A xs) (hj : j < xs.length) : ∃ b off, A = some ⟨b, off, none⟩ ∧ ∀ j u, xs[j]? = some u → w.cell? ⟨b, off + j, none⟩ = some u :=
  h (by rintro rfl; simp at hj)
theorem Mem.below (h : Mem w A xs) (hb : Below w.heap.size w w') : Mem w' A xs := fun hne => by
  obtain ⟨b, off, e, hc⟩ := h hne
  refine ⟨b, off, e, fun j u hu => ?_⟩
  have h1 := hc j u hu
  have hlt := World.block_lt_of_cell? w _ h1
  exact (hb.cell (p := ⟨b, off + j, none⟩) hlt).trans h1
theorem Mem.of_own {base : Nat} {e : TypeId} {size n c : Nat} (h : w.ownsRow base e size (.slice A n c) n xs) : Mem w A xs := fun hne => by
  rcases h.2 with ⟨h', hn⟩ | ⟨g, cap, cur, h', _, hg, _, _, _, htake⟩
  · exact absurd (List.eq_nil_of_length_eq_zero (by rw [h.1, hn]; simp)) hne
  · simp only [Value.slice.injEq] at h'
    obtain ⟨rfl, _, rfl⟩ := h'
    refine ⟨g, 0, rfl, fun j u hu => ?_⟩
    have hj : j < n * size := by rw [← h.1]; exact (List.getElem?_eq_some_iff.1 hu).1
    rw [Nat.zero_add, h.cellAt j hj, hu]
end

/-- A list of things as cells, each of as many. -/
theorem flat_get {α : Type} (f : α → List Value) (sz : Nat) (hf : ∀ a, (f a).length = sz) : ∀ (L : List α) (k : Nat) (a : α), L[k]? = some a → ∀ j, j < sz → (L.flatMap f)[k * sz + j]? = (f a)[j]?
  | [], k, a, h, _, _ => by simp at h
  | x :: L, 0, a, h, j, hj => by
    simp at h; subst h
    rw [List.flatMap_cons, Nat.zero_mul, Nat.zero_add, List.getElem?_append_left (by rw [hf]; exact hj)]
  | x :: L, k + 1, a, h, j, hj => by
    have h' : L[k]? = some a := by simpa using h
    rw [List.flatMap_cons, List.getElem?_append_right (by rw [hf, Nat.add_mul]; omega), hf]
    rw [← flat_get f sz hf L k a h' j hj]
    congr 1
    rw [Nat.add_mul]; omega
theorem flat_len {α : Type} (f : α → List Value) (sz : Nat) (hf : ∀ a, (f a).length = sz) : ∀ (L : List α), (L.flatMap f).length = L.length * sz
  | [] => by simp
  | x :: L => by rw [List.flatMap_cons, List.length_append, hf, flat_len f sz hf L, List.length_cons, Nat.add_mul]; omega
theorem Mem.elem {α : Type} {f : α → List Value} {sz : Nat} {w : World} {A : Option Addr} {L : List α} (hf : ∀ a, (f a).length = sz) (h : Mem w A (L.flatMap f)) {k : Nat} {a : α} (hk : L[k]? = some a) (hsz : 0 < sz) :
    ∃ b off, A = some ⟨b, off, none⟩ ∧ ∀ j u, (f a)[j]? = some u → w.cell? ⟨b, off + k * sz + j, none⟩ = some u := by
  have hl : k < L.length := (List.getElem?_eq_some_iff.1 hk).1
  have hlen := flat_len f sz hf L
  have hkk : k * sz < (L.flatMap f).length := by rw [hlen]; exact Nat.mul_lt_mul_of_pos_right hl hsz
  obtain ⟨b, off, e, hc⟩ := h.at_ hkk
  refine ⟨b, off, e, fun j u hu => ?_⟩
  have hj : j < sz := by rw [← hf a]; exact (List.getElem?_eq_some_iff.1 hu).1
  rw [Nat.add_assoc]
  exact hc _ u ((flat_get f sz hf L k a hk j hj).trans hu)

/-- Numbers as cells; spots as cells. -/
def ints (L : List Int) : List Value := L.map (Value.int .i64)
def spots (L : List Sp) : List Value := L.flatMap fun s => [Value.int .i64 s.x, Value.int .i64 s.y]
theorem ints_len (L : List Int) : (ints L).length = L.length := by simp [ints]
theorem spots_len (L : List Sp) : (spots L).length = L.length * 2 := flat_len _ 2 (fun _ => rfl) L
theorem Mem.int {w : World} {A : Option Addr} {L : List Int} (h : Mem w A (ints L)) {k : Nat} {n : Int} (hk : L[k]? = some n) :
    ∃ b off, A = some ⟨b, off, none⟩ ∧ w.cell? ⟨b, off + k, none⟩ = some (.int .i64 n) := by
  have hl : k < (ints L).length := by rw [ints_len]; exact (List.getElem?_eq_some_iff.1 hk).1
  obtain ⟨b, off, e, hc⟩ := h.at_ hl
  exact ⟨b, off, e, hc k _ (by simp [ints, hk])⟩
theorem Mem.spot {w : World} {A : Option Addr} {L : List Sp} (h : Mem w A (spots L)) {k : Nat} {s : Sp} (hk : L[k]? = some s) :
    ∃ b off, A = some ⟨b, off, none⟩ ∧ w.cell? ⟨b, off + k * 2, none⟩ = some (.int .i64 s.x) ∧ w.cell? ⟨b, off + k * 2 + 1, none⟩ = some (.int .i64 s.y) := by
  obtain ⟨b, off, e, hc⟩ := Mem.elem (sz := 2) (fun _ => rfl) h hk (by omega)
  exact ⟨b, off, e, hc 0 _ rfl, hc 1 _ rfl⟩

theorem some_of_lt {α : Type} {L : List α} {k : Nat} (h : k < L.length) : ∃ a, L[k]? = some a := ⟨L[k], List.getElem?_eq_getElem h⟩
end Go.Proofs.Ytffnecgdgompeaa
