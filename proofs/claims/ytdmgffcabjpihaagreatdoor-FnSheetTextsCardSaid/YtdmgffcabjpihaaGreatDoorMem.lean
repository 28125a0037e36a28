/-
  Slices in memory as lists: 'Mem w A xs': from address A on the cells xs lie in the world w (nothing is asked where xs is empty).
-/
import Derived.Test.YtdmgffcabjpihaaGreatDoorPlain
import Derived.WalkKit
import Derived.Below
import Derived.Laws.OwnMore
import Derived.Deep.Draws
import Derived.OwnWalk
namespace Go.Proofs.YtdmgffcabjpihaaGreatDoor
open Go.RowKit

@[simp] theorem size_drew_ (w : World) : w.drew.heap.size = w.heap.size := rfl
@[simp] theorem size_drewN_ (w : World) (n : Nat) : (w.drewN n).heap.size = w.heap.size := rfl
@[simp] theorem size_setCell_ (w : World) (a : Addr) (v : Value) : (w.setCell a v).heap.size = w.heap.size := by simp [World.setCell]
theorem Below.next {B : Nat} {a W w' : World} (hq : Below W.heap.size W w') (h : Below B a W) (hB : B ≤ W.heap.size) : Below B a w' := h.trans (hq.mono hB)
theorem Below.drewN {B : Nat} {a w : World} (h : Below B a w) (n : Nat) : Below B a (w.drewN n) := ⟨h.os, h.tape, h.output, h.size, h.block⟩
theorem bel {W w1 : World} (hb : Below W.heap.size W w1) : W.heap.size ≤ w1.heap.size ∧ (∀ b o, b < W.heap.size → w1.cell? ⟨b, o, none⟩ = W.cell? ⟨b, o, none⟩) ∧ (∀ b o, b < W.heap.size → w1.frozen? ⟨b, o, none⟩ = W.frozen? ⟨b, o, none⟩) :=
  ⟨hb.size, fun b o h => hb.cell (p := ⟨b, o, none⟩) h, fun b o h => hb.frozen (p := ⟨b, o, none⟩) h⟩

theorem keep1 {W w' : World} {p : Addr} {v : Value} (hq : Below W.heap.size W w') (h : W.cell? p = some v) : w'.cell? p = some v := (hq.cell (World.block_lt_of_cell? W _ h)).trans h
theorem keep2 {W w' : World} {p1 p2 : Addr} {v1 v2 : Value} (hq : Below W.heap.size W w') (h : W.cell? p1 = some v1 ∧ W.cell? p2 = some v2) : w'.cell? p1 = some v1 ∧ w'.cell? p2 = some v2 :=
  ⟨keep1 hq h.1, keep1 hq h.2⟩
theorem keep4 {W w' : World} {p1 p2 p3 p4 : Addr} {v1 v2 v3 v4 : Value} (hq : Below W.heap.size W w') (h : W.cell? p1 = some v1 ∧ W.cell? p2 = some v2 ∧ W.cell? p3 = some v3 ∧ W.cell? p4 = some v4) : w'.cell? p1 = some v1 ∧ w'.cell? p2 = some v2 ∧ w'.cell? p3 = some v3 ∧ w'.cell? p4 = some v4 :=
  ⟨keep1 hq h.1, keep1 hq h.2.1, keep1 hq h.2.2.1, keep1 hq h.2.2.2⟩

def Mem (w : World) (A : Option Addr) (xs : List Value) : Prop :=
  xs ≠ [] → ∃ b off, A = some ⟨b, off, none⟩ ∧ ∀ j u, xs[j]? = some u → w.cell? ⟨b, off + j, none⟩ = some u

section
variable {w w' : World} {A : Option Addr} {xs : List Value}
theorem Mem.nil (w : World) (A : Option Addr) : Mem w A [] := fun h => absurd rfl h
theorem Mem.at_ {j : Nat} (h : Mem w A xs) (hj : j < xs.length) : ∃ b off, A = some ⟨b, off, none⟩ ∧ ∀ j u, xs[j]? = some u → w.cell? ⟨b, off + j, none⟩ = some u :=
  h (by rintro rfl; simp at hj)
theorem Mem.below (h : Mem w A xs) (hb : Below w.heap.size w w') : Mem w' A xs := fun hne => by
  obtain ⟨b, off, e, hc⟩ := h hne
  refine ⟨b, off, e, fun j u hu => ?_⟩
  have h1 := hc j u hu
  have hlt := World.block_lt_of_cell? w _ h1
  exact (hb.cell (p := ⟨b, off + j, none⟩) hlt).trans h1
theorem Mem.of_own {base : Nat} {e : TypeId} {size n c : Nat} (h : w.ownsRow base e size (.slice A n c) n xs) : Mem w A xs := fun hne => by
  rcases h.2 with ⟨h', hn⟩ | ⟨g, cap, cur, h', _, hg, _, _, _, htake⟩
  · exact absurd (List.eq_nil_of_length_eq_zero (by rw [h.1, hn]; simp)) hne
  · simp only [Value.slice.injEq] at h'
    obtain ⟨rfl, _, rfl⟩ := h'
    refine ⟨g, 0, rfl, fun j u hu => ?_⟩
    have hj : j < n * size := by rw [← h.1]; exact (List.getElem?_eq_some_iff.1 hu).1
    rw [Nat.zero_add, h.cellAt j hj, hu]
end

/-- A list of things as cells, each of as many. -/
theorem flat_get {α : Type} (f : α → List Value) (sz : Nat) (hf : ∀ a, (f a).length = sz) : ∀ (L : List α) (k : Nat) (a : α), L[k]? = some a → ∀ j, j < sz → (L.flatMap f)[k * sz + j]? = (f a)[j]?
  | [], k, a, h, _, _ => by simp at h
  | x :: L, 0, a, h, j, hj => by
    simp at h; subst h
    rw [List.flatMap_cons, Nat.zero_mul, Nat.zero_add, List.getElem?_append_left (by rw [hf]; exact hj)]
  | x :: L, k + 1, a, h, j, hj => by
    have h' : L[k]? = some a := by simpa using h
    rw [List.flatMap_cons, List.getElem?_append_right (by rw [hf, Nat.add_mul]; omega), hf]
    rw [← flat_get f sz hf L k a h' j hj]
    congr 1
    rw [Nat.add_mul]; omega
theorem flat_len {α : Type} (f : α → List Value) (sz : Nat) (hf : ∀ a, (f a).length = sz) : ∀ (L : List α), (L.flatMap f).length = L.length * sz
  | [] => by simp
  | x :: L => by rw [List.flatMap_cons, List.length_append, hf, flat_len f sz hf L, List.length_cons, Nat.add_mul]; omega
theorem Mem.elem {α : Type} {f : α → List Value} {sz : Nat} {w : World} {A : Option Addr} {L : List α} (hf : ∀ a, (f a).length = sz) (h : Mem w A (L.flatMap f)) {k : Nat} {a : α} (hk : L[k]? = some a) (hsz : 0 < sz) :
    ∃ b off, A = some ⟨b, off, none⟩ ∧ ∀ j u, (f a)[j]? = some u → w.cell? ⟨b, off + k * sz + j, none⟩ = some u := by
  have hl : k < L.length := (List.getElem?_eq_some_iff.1 hk).1
  have hlen := flat_len f sz hf L
  have hkk : k * sz < (L.flatMap f).length := by rw [hlen]; exact Nat.mul_lt_mul_of_pos_right hl hsz
  obtain ⟨b, off, e, hc⟩ := h.at_ hkk
  refine ⟨b, off, e, fun j u hu => ?_⟩
  have hj : j < sz := by rw [← hf a]; exact (List.getElem?_eq_some_iff.1 hu).1
  rw [Nat.add_assoc]
  exact hc _ u ((flat_get f sz hf L k a hk j hj).trans hu)

/-- Numbers as cells; spots as cells. -/
def ints (L : List Int) : List Value := L.flatMap fun n => [Value.int .i64 n]
def spots (L : List Sp) : List Value := L.flatMap fun s => [Value.int .i64 s.x, Value.int .i64 s.y]
theorem ints_len (L : List Int) : (ints L).length = L.length := by rw [ints, flat_len _ 1 (fun _ => rfl)]; omega
theorem spots_len (L : List Sp) : (spots L).length = L.length * 2 := flat_len _ 2 (fun _ => rfl) L
theorem ints_snoc (L : List Int) (n : Int) : ints (L ++ [n]) = ints L ++ [Value.int .i64 n] := by simp [ints]
theorem spots_snoc (L : List Sp) (s : Sp) : spots (L ++ [s]) = spots L ++ [Value.int .i64 s.x, Value.int .i64 s.y] := by simp [spots]
theorem Mem.int {w : World} {A : Option Addr} {L : List Int} (h : Mem w A (ints L)) {k : Nat} {n : Int} (hk : L[k]? = some n) :
    ∃ b off, A = some ⟨b, off, none⟩ ∧ w.cell? ⟨b, off + k, none⟩ = some (.int .i64 n) := by
  obtain ⟨b, off, e, hc⟩ := Mem.elem (sz := 1) (fun _ => rfl) h hk (by omega)
  exact ⟨b, off, e, by simpa using hc 0 _ rfl⟩
theorem Mem.spot {w : World} {A : Option Addr} {L : List Sp} (h : Mem w A (spots L)) {k : Nat} {s : Sp} (hk : L[k]? = some s) :
    ∃ b off, A = some ⟨b, off, none⟩ ∧ w.cell? ⟨b, off + k * 2, none⟩ = some (.int .i64 s.x) ∧ w.cell? ⟨b, off + k * 2 + 1, none⟩ = some (.int .i64 s.y) := by
  obtain ⟨b, off, e, hc⟩ := Mem.elem (sz := 2) (fun _ => rfl) h hk (by omega)
  exact ⟨b, off, e, hc 0 _ rfl, hc 1 _ rfl⟩

theorem some_of_lt {α : Type} {L : List α} {k : Nat} (h : k < L.length) : ∃ a, L[k]? = some a := ⟨L[k], List.getElem?_eq_getElem h⟩

/-! ### What the call itself has made -/
section
variable {w w' : World} {base : Nat} {e : TypeId} {size : Nat} {v : Value} {n : Nat} {xs : List Value}
theorem own_below (h : w.ownsRow base e size v n xs) (hb : Below w.heap.size w w') : w'.ownsRow base e size v n xs := by
  refine ⟨h.1, ?_⟩
  rcases h.2 with h2 | ⟨g, cap, cur, hv, hg, hh, r⟩
  · exact Or.inl h2
  · exact Or.inr ⟨g, cap, cur, hv, hg, (hb.block g (Array.getElem?_eq_some_iff.1 hh).1).trans hh, r⟩
theorem own_drew (h : w.ownsRow base e size v n xs) : w.drew.ownsRow base e size v n xs := h
theorem own_lt (h : w.ownsRow base e size v n xs) : ∀ k, v.ownBlock = some k → base ≤ k ∧ k < w.heap.size := h.lt
theorem own_form (h : w.ownsRow base e size v n xs) : ∃ A c, v = .slice A n c := by
  rcases h.2 with ⟨rfl, rfl⟩ | ⟨g, cap, cur, rfl, _⟩
  · exact ⟨none, 0, rfl⟩
  · exact ⟨_, _, rfl⟩
/-- Two rows of which the one began where the heap ended when the other was there already. -/
theorem own_kept {row : Option Nat} (h : w.ownsRow base e size v n xs) (hg : w.grownBy w' row) (hne : ∀ k, row = some k → ∀ j, v.ownBlock = some j → j ≠ k) : w'.ownsRow base e size v n xs := by
  refine h.kept hg ?_
  cases hv : v.ownBlock with
  | none => exact Or.inl rfl
  | some j => exact Or.inr (fun e => hne j e.symm j hv rfl)
end

theorem own_addr {w : World} {base : Nat} {e : TypeId} {size : Nat} {A : Option Addr} {n c : Nat} {xs : List Value} (h : w.ownsRow base e size (.slice A n c) n xs) (hn : 0 < n) : ∃ g, A = some ⟨g, 0, none⟩ ∧ base ≤ g ∧ g < w.heap.size := by
  rcases h.2 with ⟨_, h2⟩ | ⟨g, cap, cur, hv, hg, hh, _⟩
  · omega
  · simp only [Value.slice.injEq] at hv
    obtain ⟨rfl, _, rfl⟩ := hv
    exact ⟨g, rfl, hg, (Array.getElem?_eq_some_iff.1 hh).1⟩
theorem grown_trans {a b c : World} {row : Option Nat} (h : a.grownBy b row) (k : b.grownBy c row) : a.grownBy c row :=
  ⟨k.os.trans h.os, k.tape.trans h.tape, k.output.trans h.output, Nat.le_trans h.size k.size, fun i hi hne => (k.block i (Nat.lt_of_lt_of_le hi h.size) hne).trans (h.block i hi hne)⟩
theorem grown_refl (w : World) (row : Option Nat) : w.grownBy w row := ⟨rfl, rfl, rfl, Nat.le_refl _, fun _ _ _ => rfl⟩
theorem grown_drewN {a w : World} {row : Option Nat} (h : a.grownBy w row) (n : Nat) : a.grownBy (w.drewN n) row := ⟨h.os, h.tape, h.output, h.size, h.block⟩

/-- k, k + 1, .. -/
def run (k : Int) (n : Nat) : List Int := (List.range n).map fun i : Nat => k + (i : Int)
theorem run_len (k : Int) (n : Nat) : (run k n).length = n := by simp [run]
theorem run_at {k : Int} {n i : Nat} (h : i < n) : (run k n)[i]? = some (k + (i : Int)) := by simp [run, h]
def marked (L : List Int) (k : Int) (j : Nat) : List Int := run k j ++ L.drop j
theorem marked_zero (L : List Int) (k : Int) : marked L k 0 = L := by simp [marked, run]
theorem marked_all (L : List Int) (k : Int) {j : Nat} (h : L.length ≤ j) (h2 : j ≤ L.length) : marked L k j = run k L.length := by
  have : j = L.length := by omega
  subst this
  simp [marked]
theorem marked_len (L : List Int) (k : Int) {j : Nat} (h : j ≤ L.length) : (marked L k j).length = L.length := by simp [marked, run]; omega
theorem marked_set {L : List Int} {k : Int} {j : Nat} (h : j < L.length) : (marked L k j).set j (k + (j : Int)) = marked L k (j + 1) := by
  unfold marked
  rw [List.set_append_right _ _ (by rw [run_len]; omega), run_len, Nat.sub_self, List.drop_eq_getElem_cons h, List.set_cons_zero]
  simp [run, List.range_succ]
/-- The same for spots: two numbers each. -/
def runS (k : Int) (n : Nat) : List Sp := (List.range n).map fun i : Nat => ⟨k + 2 * (i : Int), k + 2 * (i : Int) + 1⟩
theorem runS_len (k : Int) (n : Nat) : (runS k n).length = n := by simp [runS]
theorem runS_at {k : Int} {n i : Nat} (h : i < n) : (runS k n)[i]? = some ⟨k + 2 * (i : Int), k + 2 * (i : Int) + 1⟩ := by simp [runS, h]
def markedS (L : List Sp) (k : Int) (j : Nat) : List Sp := runS k j ++ L.drop j
theorem markedS_zero (L : List Sp) (k : Int) : markedS L k 0 = L := by simp [markedS, runS]
theorem markedS_all (L : List Sp) (k : Int) {j : Nat} (h : L.length ≤ j) (h2 : j ≤ L.length) : markedS L k j = runS k L.length := by
  have : j = L.length := by omega
  subst this
  simp [markedS]
theorem markedS_len (L : List Sp) (k : Int) {j : Nat} (h : j ≤ L.length) : (markedS L k j).length = L.length := by simp [markedS, runS]; omega
theorem markedS_set {L : List Sp} {k : Int} {j : Nat} (h : j < L.length) : (markedS L k j).set j ⟨k + 2 * (j : Int), k + 2 * (j : Int) + 1⟩ = markedS L k (j + 1) := by
  unfold markedS
  rw [List.set_append_right _ _ (by rw [runS_len]; omega), runS_len, Nat.sub_self, List.drop_eq_getElem_cons h, List.set_cons_zero]
  simp [runS, List.range_succ]

/-- 'out = append(out, x)': one thing more on a row of the call's own; x has just been laid in a block of its own. -/
theorem wpList_append_one {P : Program} (w : World) {ops : Array Oper} {rest : List Oper} {o : Oper} {a : Act} {Q : Exit → Act → World → Prop} (hgd : o.guard = none) (s x : Operand) (t : TypeId)
    (ho : o.op = .call { callee := .builtin .append, args := #[s, x], argTypes := #[t, t] })
    (base : Nat) (e : TypeId) (i : TypeInfo) (z : Value) (size bytes : Nat) (ht : P.underlying t = some (.slice e)) (hi : P.info? e = some i) (hz : i.zero = some z)
    (hsize : i.size = size) (hby : i.bytes = bytes) (hzs : z.cells.size = size) (hsz : 0 < size)
    (v : Value) (n : Nat) (xs : List Value) (hs : a.eval s = v) (hown : w.ownsRow base e size v n xs)
    (news : Array Value) (te : TypeId) (c : Nat) (hx : a.eval x = .slice (some ⟨w.heap.size, 0, none⟩) 1 c) (hl : news.size = size) (h1 : news.toList.all Value.oneCell' = true)
    (h63 : n ≤ 1073741824) (hbytes : bytes ≤ 65536) (hbase : base ≤ w.heap.size)
    (h : ∀ v' w', w'.ownsRow base e size v' (n + 1) (xs ++ news.toList) → Below base w w' → wpList P ops Q rest (a.put o.dst v') w') : wpList P ops Q (o :: rest) a (w.alloc (.cells news te)) := by
  have hb2 : (n + 1) * bytes ≤ 140737488355328 := Nat.le_trans (Nat.mul_le_mul (Nat.succ_le_succ h63) hbytes) (by decide)
  refine wpList_append_own _ hgd s x t ho base e i z size bytes ht hi hz hsize hby hzs hsz v n xs hs (hown.alloc _) ⟨w.heap.size, 0, none⟩ 1 c news.toList hx (by simpa using hl) ?_ ?_ (by unfold maxLen; omega) hb2 (by simp; omega) ?_
  · intro j u hu
    rw [Addr.add_lit, Nat.zero_add, cell_of_row _ w.heap.size j news te (0, 0) (heap_alloc_new w _)]
    simpa using hu
  · intro u hu
    exact List.all_eq_true.1 h1 u hu
  · intro v' w' ho' hg _
    refine h v' w' ho' (((Below.refl base w).alloc hbase _).grown hg (by simp; omega) (fun k hk => ?_))
    exact (hown.lt k hk).1

/-- A parameter's box: the first block of the call's own. -/
theorem boxed {w wr : World} {o : Obj} (hb : Below (w.heap.size + 1) (w.alloc o) wr) : Below w.heap.size w wr ∧ w.heap.size < wr.heap.size :=
  ⟨((Below.refl _ _).alloc (Nat.le_refl _) _).trans (hb.mono (Nat.le_succ _)), by have := hb.size; simp at this; omega⟩
theorem boxed_cell {w wr : World} {cs : Array Value} {t : TypeId} (hb : Below (w.heap.size + 1) (w.alloc (.cells cs t)) wr) (j : Nat) : wr.cell? ⟨w.heap.size, j, none⟩ = cs[j]? := by
  rw [hb.cell (p := ⟨w.heap.size, j, none⟩) (Nat.lt_succ_self _), cell_of_row _ w.heap.size j cs t (0, 0) (heap_alloc_new w _)]
theorem own_base {w : World} {base base' : Nat} {e : TypeId} {size : Nat} {v : Value} {n : Nat} {xs : List Value} (h : w.ownsRow base e size v n xs) (hb : base' ≤ base) : w.ownsRow base' e size v n xs := by
  refine ⟨h.1, ?_⟩
  rcases h.2 with h2 | ⟨g, cap, cur, hv, hg, r⟩
  · exact Or.inl h2
  · exact Or.inr ⟨g, cap, cur, hv, Nat.le_trans hb hg, r⟩
theorem own_empty {w : World} {base g : Nat} {xs : List Value} (e : TypeId) (size : Nat) (hg : g = w.heap.size) (hb : base ≤ g) (hx : xs = []) : (w.alloc (.cells #[] e)).ownsRow base e size (.slice (some ⟨g, 0, none⟩) 0 0) 0 xs := by
  subst hg hx
  exact World.ownsRow_lit w #[] 0 hb (Nat.zero_le _) (by simp)

theorem below_grown {B : Nat} {a w w' : World} {row : Option Nat} (h : Below B a w) (hg : w.grownBy w' row) (hB : B ≤ w.heap.size) (hr : ∀ k, row = some k → B ≤ k) : Below B a w' := h.grown hg hB hr
theorem keep2g {W w' : World} {p1 p2 : Addr} {v1 v2 : Value} {row : Option Nat} (hg : W.grownBy w' row) (h : W.cell? p1 = some v1 ∧ W.cell? p2 = some v2) (hr : ∀ k, row = some k → p1.block < k ∧ p2.block < k) : w'.cell? p1 = some v1 ∧ w'.cell? p2 = some v2 :=
  ⟨hg.cell h.1 (fun e => by have := (hr p1.block e.symm).1; omega), hg.cell h.2 (fun e => by have := (hr p2.block e.symm).2; omega)⟩
theorem grown_below {w w' : World} (hg : w.grownBy w' none) : Below w.heap.size w w' := ⟨hg.os, hg.tape, hg.output, hg.size, fun k hk => hg.block k hk (fun e => by cases e)⟩
theorem mem_grown {w w' : World} {A : Option Addr} {xs : List Value} {row : Option Nat} (h : Mem w A xs) (hg : w.grownBy w' row) (hne : ∀ b off, A = some ⟨b, off, none⟩ → some b ≠ row) : Mem w' A xs := fun hx => by
  obtain ⟨b, off, ea, hc⟩ := h hx
  exact ⟨b, off, ea, fun j u hu => hg.cell (hc j u hu) (hne b off ea)⟩

/-- A row that make has laid: as many zero things. -/
theorem made_flat {α : Type} (f : α → List Value) (sz : Nat) (z : α) (hsz : 0 < sz) (hf : ∀ a, (f a).length = sz) (n : Nat) : (madeCells (f z).toArray (n * sz)).toList = (List.replicate n z).flatMap f := by
  apply List.ext_getElem?
  intro j
  by_cases hj : j < n * sz
  · have hk : j / sz < n := (Nat.div_lt_iff_lt_mul hsz).2 hj
    have hm : j % sz < sz := Nat.mod_lt _ hsz
    have e1 : j / sz * sz + j % sz = j := by rw [Nat.mul_comm]; exact Nat.div_add_mod j sz
    have h2 := flat_get f sz hf (List.replicate n z) (j / sz) z (by simp [hk]) (j % sz) hm
    rw [e1] at h2
    rw [h2]
    have hz : j % (f z).length < (f z).length := by rw [hf]; exact hm
    simp [madeCells, hj, hf, hm]
  · rw [List.getElem?_eq_none (by simp [size_madeCells]; omega), List.getElem?_eq_none (by rw [flat_len f sz hf]; simp; omega)]

/-- The first k of L, the rest zero. -/
def part {α : Type} (L : List α) (z : α) (k : Nat) : List α := L.take k ++ List.replicate (L.length - k) z
theorem part_len {α : Type} (L : List α) (z : α) {k : Nat} (h : k ≤ L.length) : (part L z k).length = L.length := by simp [part]; omega
theorem part_zero {α : Type} (L : List α) (z : α) : part L z 0 = List.replicate L.length z := by simp [part]
theorem part_all {α : Type} (L : List α) (z : α) {k : Nat} (h : L.length ≤ k) : part L z k = L := by simp [part, List.take_of_length_le h, Nat.sub_eq_zero_of_le h]
theorem part_set {α : Type} {L : List α} {z a : α} {k : Nat} (hk : L[k]? = some a) : (part L z k).set k a = part L z (k + 1) := by
  have hl : k < L.length := (List.getElem?_eq_some_iff.1 hk).1
  unfold part
  rw [List.set_append_right _ _ (by simp; omega)]
  have e1 : k - (L.take k).length = 0 := by simp; omega
  have e2 : L.length - k = (L.length - (k + 1)) + 1 := by omega
  rw [e1, e2, List.replicate_succ, List.set_cons_zero, List.take_add_one, hk]
  simp
theorem ints_set : ∀ (L : List Int) (k : Nat) (n : Int), ints (L.set k n) = (ints L).set k (.int .i64 n)
  | [], _, _ => by simp [ints]
  | x :: L, 0, n => by simp [ints]
  | x :: L, k + 1, n => by
    have := ints_set L k n
    simp only [ints, List.set_cons_succ, List.flatMap_cons, List.singleton_append] at *
    rw [this]
theorem spots_set : ∀ (L : List Sp) (k : Nat) (s : Sp), spots (L.set k s) = ((spots L).set (k * 2) (.int .i64 s.x)).set (k * 2 + 1) (.int .i64 s.y)
  | [], _, _ => by simp [spots]
  | x :: L, 0, n => by simp [spots]
  | x :: L, k + 1, n => by
    have := spots_set L k n
    have e1 : (k + 1) * 2 = k * 2 + 1 + 1 := by omega
    simp only [spots, List.set_cons_succ, List.flatMap_cons, List.cons_append, List.nil_append, e1] at *
    rw [this]
end Go.Proofs.YtdmgffcabjpihaaGreatDoor
