/-
  Draws: two sheets in the making.
-/
import Derived.Test.YtdmgffcabjpihaaGreatDoorDsz
import Derived.Laws.AppendOwnNone
import Derived.Maps.AppendAt
namespace Go.Proofs.YtdmgffcabjpihaaGreatDoor
open Go.RowKit

theorem step_append_many {P : Program} (w : World) {ops : Array Oper} {o : Oper} {a : Act} {K : Act → World → Prop} {Q : Exit → Act → World → Prop} {E : Prop} (hgd : o.guard = none) (s x : Operand) (t : TypeId)
    (ho : o.op = .call { callee := .builtin .append, args := #[s, x], argTypes := #[t, t] })
    (base : Nat) (e : TypeId) (i : TypeInfo) (z : Value) (size bytes : Nat) (ht : P.underlying t = some (.slice e)) (hi : P.info? e = some i) (hz : i.zero = some z)
    (hsize : i.size = size) (hby : i.bytes = bytes) (hzs : z.cells.size = size) (hsz : 0 < size)
    (v : Value) (n : Nat) (xs : List Value) (hs : a.eval s = v) (hown : w.ownsRow base e size v n xs)
    (ad : Addr) (m c : Nat) (news : List Value) (hx : a.eval x = .slice (some ad) m c) (hl : news.length = m * size) (hnews : ∀ j u, news[j]? = some u → w.cell? (ad.add j) = some u) (h1 : ∀ u ∈ news, u.oneCell' = true)
    (h63 : n + m ≤ maxLen) (hbytes : (n + m) * bytes ≤ 140737488355328) (hbase : base ≤ w.heap.size)
    (h : ∀ v' w', w'.ownsRow base e size v' (n + m) (xs ++ news) → w.grownBy w' v.ownBlock → (v'.ownBlock = v.ownBlock ∨ v'.ownBlock = some w.heap.size) → K (a.put o.dst v') w') :
    if Region.wanted o (yielded ops a.tmps) = true then Oper.wp P o a w K Q else E := by
  have hw : Region.wanted o (yielded ops a.tmps) = true := by simp [Region.wanted, hgd]
  rw [if_pos hw]
  obtain ⟨v', w', hr, h2, h3, h4, h5⟩ := run_append_own_at (P := P) w base t o.type e i z size bytes ht hi hz hsize hby hzs hsz v n xs hown ad m c news hl hnews h1 h63 hbytes hbase
  unfold Oper.wp execOp
  simp only [ho, resolve, invoke, builtin, Sem.run_bind, Sem.run_pure, Result.andThen_ok, List.map_toArray, List.map_cons, List.map_nil, hs, hx, hr]
  exact h _ _ h2 h3 h5

theorem step_append_none {P : Program} (w : World) {ops : Array Oper} {o : Oper} {a : Act} {K : Act → World → Prop} {Q : Exit → Act → World → Prop} {E : Prop} (hgd : o.guard = none) (s x : Operand) (t : TypeId)
    (ho : o.op = .call { callee := .builtin .append, args := #[s, x], argTypes := #[t, t] })
    (base : Nat) (e : TypeId) (i : TypeInfo) (size : Nat) (ht : P.underlying t = some (.slice e)) (hi : P.info? e = some i)
    (v : Value) (n : Nat) (xs : List Value) (hs : a.eval s = v) (hown : w.ownsRow base e size v n xs) (hx : a.eval x = .slice none 0 0)
    (h : K (a.put o.dst v) w) :
    if Region.wanted o (yielded ops a.tmps) = true then Oper.wp P o a w K Q else E := by
  have hw : Region.wanted o (yielded ops a.tmps) = true := by simp [Region.wanted, hgd]
  rw [if_pos hw]
  have hr := run_append_owned_none (P := P) (w := w) base t o.type e i size ht hi v n xs hown
  unfold Oper.wp execOp
  simp only [ho, resolve, invoke, builtin, Sem.run_bind, Sem.run_pure, Result.andThen_ok, List.map_toArray, List.map_cons, List.map_nil, hs, hx, hr]
  exact h

/-- An own row grows by a copy of another row. -/
theorem step_append_copy {P : Program} (w : World) {ops : Array Oper} {o : Oper} {a : Act} {K : Act → World → Prop} {Q : Exit → Act → World → Prop} {E : Prop} (hgd : o.guard = none) (s x : Operand) (t : TypeId)
    (ho : o.op = .call { callee := .builtin .append, args := #[s, x], argTypes := #[t, t] })
    (base base2 : Nat) (e : TypeId) (i : TypeInfo) (z : Value) (size bytes : Nat) (ht : P.underlying t = some (.slice e)) (hi : P.info? e = some i) (hz : i.zero = some z)
    (hsize : i.size = size) (hby : i.bytes = bytes) (hzs : z.cells.size = size) (hsz : 0 < size)
    (v : Value) (n : Nat) (xs : List Value) (hs : a.eval s = v) (hown : w.ownsRow base e size v n xs)
    (A : Option Addr) (m c : Nat) (news : List Value) (hx : a.eval x = .slice A m c) (hown2 : w.ownsRow base2 e size (.slice A m c) m news) (h1 : ∀ u ∈ news, u.oneCell' = true)
    (h63 : n + m ≤ maxLen) (hbytes : (n + m) * bytes ≤ 140737488355328) (hbase : base ≤ w.heap.size)
    (h : ∀ v' w', w'.ownsRow base e size v' (n + m) (xs ++ news) → w.grownBy w' v.ownBlock → (v'.ownBlock = v.ownBlock ∨ v'.ownBlock = some w.heap.size) → K (a.put o.dst v') w') :
    if Region.wanted o (yielded ops a.tmps) = true then Oper.wp P o a w K Q else E := by
  rcases hown2.2 with ⟨h2, h3⟩ | ⟨g, cap, cur, h2, hb2, hh, hnc, hcm, hcs, htk⟩
  · cases h2
    have hn : news = [] := List.eq_nil_of_length_eq_zero (by have := hown2.1; omega)
    subst hn
    exact step_append_none (P := P) w hgd s x t ho base e i size ht hi v n xs hs hown hx (h v w (by simpa using hown) (grown_refl _ _) (.inl rfl))
  · cases h2
    refine step_append_many (P := P) w hgd s x t ho base e i z size bytes ht hi hz hsize hby hzs hsz v n xs hs hown ⟨g, 0, none⟩ m c news hx hown2.1 ?_ h1 h63 hbytes hbase h
    intro j u hu
    have hm : Mem w (some ⟨g, 0, none⟩) news := Mem.of_own hown2
    obtain ⟨b', off', e', h7⟩ := hm (fun e => by rw [e] at hu; simp at hu)
    cases e'
    rw [Addr.add_lit]
    exact h7 j u hu
theorem rows_one (L : List Rw) : ∀ u ∈ rows L, u.oneCell' = true := fun u hu => by
  simp only [rows, List.mem_flatMap, List.mem_cons, List.not_mem_nil, or_false] at hu
  obtain ⟨n, _, rfl | rfl | rfl⟩ := hu <;> rfl
theorem apart_of {u v : Value} {X Y S : Nat} (h : u.ownBlock = v.ownBlock ∨ u.ownBlock = some S) (hv : v.ownBlock = some X) (hX : X ≠ Y) (hS : S ≠ Y) : u.ownBlock ≠ some Y := fun e => by
  rcases h with h | h
  · rw [h, hv] at e; exact hX (Option.some.inj e)
  · rw [h] at e; exact hS (Option.some.inj e)
theorem ownD {w : World} {base : Nat} {e : TypeId} {size : Nat} {v : Value} {n : Nat} {xs : List Value} {o : Obj} (h : w.ownsRow base e size v n xs) : (w.alloc o).ownsRow base e size v n xs := own_below h (below_alloc _ _)
theorem growB {B : Nat} {w6 W1 w8 : World} {row : Option Nat} (hg : W1.grownBy w8 row) (hb : Below B w6 W1) (hs : B ≤ w6.heap.size) (hr : ∀ j, row = some j → B ≤ j) : Below B w6 w8 :=
  hb.grown hg (Nat.le_trans hs hb.size) hr
theorem own_capM {w : World} {base : Nat} {e : TypeId} {size : Nat} {A : Option Addr} {n c : Nat} {xs : List Value} (h : w.ownsRow base e size (.slice A n c) n xs) : n ≤ c := by
  rcases h.2 with ⟨e, _⟩ | ⟨k, cap, cur, e, _, _, h5, _⟩
  · cases e; exact Nat.le_refl _
  · cases e; exact h5
theorem keepW4 {w w' : World} {B b : Nat} {v0 v1 v2 v3 : Value} (hq : Below B w w') (h : w.cell? ⟨b, 0, none⟩ = some v0 ∧ w.cell? ⟨b, 1, none⟩ = some v1 ∧ w.cell? ⟨b, 2, none⟩ = some v2 ∧ w.cell? ⟨b, 3, none⟩ = some v3) (hb : b < B) : w'.cell? ⟨b, 0, none⟩ = some v0 ∧ w'.cell? ⟨b, 1, none⟩ = some v1 ∧ w'.cell? ⟨b, 2, none⟩ = some v2 ∧ w'.cell? ⟨b, 3, none⟩ = some v3 := ⟨(hq.cell hb).trans h.1, (hq.cell hb).trans h.2.1, (hq.cell hb).trans h.2.2.1, (hq.cell hb).trans h.2.2.2⟩
/-- A number and the slice's length keep a block apart. -/
def Ap (A : Option Addr) (b : Nat) : Prop := ∀ n c, (Value.slice A n c).ownBlock ≠ some b
abbrev Box4 (w : World) (b : Nat) (v0 v1 v2 v3 : Value) : Prop := w.cell? ⟨b, 0, none⟩ = some v0 ∧ w.cell? ⟨b, 1, none⟩ = some v1 ∧ w.cell? ⟨b, 2, none⟩ = some v2 ∧ w.cell? ⟨b, 3, none⟩ = some v3
section
variable {w : World} {b q : Nat} {v0 v1 v2 v3 x0 x1 x2 x3 : Value}
theorem keepD4 {o : Obj} (h : Box4 w b v0 v1 v2 v3) : Box4 (w.alloc o) b v0 v1 v2 v3 := ⟨keepD1 h.1, keepD1 h.2.1, keepD1 h.2.2.1, keepD1 h.2.2.2⟩
theorem keepE4 (h : Box4 w b v0 v1 v2 v3) : Box4 w.drew b v0 v1 v2 v3 := h
theorem keepP4 (h : Box4 w b v0 v1 v2 v3) (hne : q ≠ b) : Box4 ((((w.setCell ⟨q, 0, none⟩ x0).setCell ⟨q, 1, none⟩ x1).setCell ⟨q, 2, none⟩ x2).setCell ⟨q, 3, none⟩ x3) b v0 v1 v2 v3 :=
  ⟨keepP1 (keepP1 (keepP1 (keepP1 h.1 hne) hne) hne) hne, keepP1 (keepP1 (keepP1 (keepP1 h.2.1 hne) hne) hne) hne, keepP1 (keepP1 (keepP1 (keepP1 h.2.2.1 hne) hne) hne) hne, keepP1 (keepP1 (keepP1 (keepP1 h.2.2.2 hne) hne) hne) hne⟩
theorem keepB4 {w' : World} {g : Nat} (h : Oth g w w') (hS : Box4 w b v0 v1 v2 v3) (hb : b ≠ g) : Box4 w' b v0 v1 v2 v3 := ⟨keepB1 h hS.1 hb, keepB1 h hS.2.1 hb, keepB1 h hS.2.2.1 hb, keepB1 h hS.2.2.2 hb⟩
end

/-- Two sheets are drawn, in memory that can be read. -/
def DrSW (w : World) (e : Ending) (w' : World) : Prop :=
  ∃ (p : Int) (s : Sp) (A : Option Addr) (c : Nat) (L : List Rw) (q : Int) (t : Sp) (B : Option Addr) (d : Nat) (M : List Rw), e = .returned (.tuple #[.agg #[.int .i64 p, .int .i64 s.x, .int .i64 s.y, .slice A L.length c], .agg #[.int .i64 q, .int .i64 t.x, .int .i64 t.y, .slice B M.length d]]) ∧ Mem w' A (rows L) ∧ L.length ≤ 9 ∧ Mem w' B (rows M) ∧ M.length ≤ 9 ∧ Below w.heap.size w w'
/-- Behind the drawing of the second sheet. -/
structure Sw6 (w wx : World) (K sb b6 : Nat) (p : Int) (s : Sp) (A1 : Option Addr) (c1 : Nat) (L : List Rw) (q : Int) (A8 : Option Addr) (c8 : Nat) (M : List Rw) : Prop where
  cur : Cur wx (w.heap.size + 2) K
  bel : Below w.heap.size w wx
  z : Blk wx w.heap.size #[.int .i64 0, .int .i64 0, .int .i64 0, .slice none 0 0] 28
  y : Blk wx (w.heap.size + 1) #[.int .i64 0, .int .i64 0, .int .i64 0, .slice none 0 0] 28
  sbx : Blk wx sb #[.int .i64 p, .int .i64 s.x, .int .i64 s.y, .slice A1 L.length c1] 28
  b6x : Blk wx b6 #[.int .i64 q, .int .i64 s.x, .int .i64 s.y, .slice A8 M.length c8] 28
  o1 : wx.ownsRow (w.heap.size + 3) 46 3 (.slice A1 L.length c1) L.length (rows L)
  o8 : wx.ownsRow (w.heap.size + 3) 46 3 (.slice A8 M.length c8) M.length (rows M)
  e1b : (Value.slice A1 L.length c1).ownBlock ≠ some b6
  e8s : (Value.slice A8 M.length c8).ownBlock ≠ some sb
  e8b : (Value.slice A8 M.length c8).ownBlock ≠ some b6
  e18 : ∀ j, (Value.slice A8 M.length c8).ownBlock = some j → (Value.slice A1 L.length c1).ownBlock ≠ some j
  hs : w.heap.size + 2 < sb
  hb : w.heap.size + 2 < b6
  hne : sb ≠ b6
section
variable {w V w5 w8 : World} {K sb Y : Nat} {p : Int} {s : Sp} {A1 : Option Addr} {c1 : Nat} {L : List Rw} {q : Int} {A8 : Option Addr} {c8 n8 : Nat}
theorem Sw6.mkA (hsb : sb + 1 = V.heap.size) (hs2 : w.heap.size + 2 < sb) (hB : Below w.heap.size w V) (hZ : Blk V w.heap.size #[.int .i64 0, .int .i64 0, .int .i64 0, .slice none 0 0] 28) (hY : Blk V (w.heap.size + 1) #[.int .i64 0, .int .i64 0, .int .i64 0, .slice none 0 0] 28)
    (hS : Blk V sb #[.int .i64 p, .int .i64 s.x, .int .i64 s.y, .slice A1 L.length c1] 28) (hO : V.ownsRow (w.heap.size + 3) 46 3 (.slice A1 L.length c1) L.length (rows L)) (hO' : ∀ k, (Value.slice A1 L.length c1).ownBlock = some k → k < sb)
    (ho : Oth (w.heap.size + 2) V w5) (hc : Cur w5 (w.heap.size + 2) K) (hb : Below V.heap.size w5 w8) (h8 : w8.ownsRow V.heap.size 46 3 (.slice A8 n8 c8) n8 (rows L)) (h8n : n8 = L.length) :
    Cur w8 (w.heap.size + 2) K ∧ Below w.heap.size w w8 ∧ Blk w8 w.heap.size #[.int .i64 0, .int .i64 0, .int .i64 0, .slice none 0 0] 28 ∧ Blk w8 (w.heap.size + 1) #[.int .i64 0, .int .i64 0, .int .i64 0, .slice none 0 0] 28 ∧ Blk w8 sb #[.int .i64 p, .int .i64 s.x, .int .i64 s.y, .slice A1 L.length c1] 28 ∧ w8.ownsRow (w.heap.size + 3) 46 3 (.slice A1 L.length c1) L.length (rows L) ∧ w8.ownsRow (w.heap.size + 3) 46 3 (.slice A8 L.length c8) L.length (rows L) ∧
    (∀ j, (Value.slice A8 L.length c8).ownBlock = some j → V.heap.size ≤ j ∧ j < w8.heap.size) ∧ V.heap.size ≤ w8.heap.size := by
  subst h8n
  have hz5 := ho.size
  refine ⟨hc.below hb (by omega), (hB.trans (ho.below (B := w.heap.size) (by omega) (by omega))).trans (hb.mono (by omega)), (ho.blk hZ (by omega)).below hb (by omega), (ho.blk hY (by omega)).below hb (by omega), (ho.blk hS (by omega)).below hb (by omega), ?_, own_base h8 (by omega), fun j hj => h8.lt j hj, Nat.le_trans hz5 hb.size⟩
  refine ⟨hO.1, ?_⟩
  have h5 := ho.own hO (by omega)
  rcases h5.2 with h2 | ⟨g, cap, cur, hv, hg, hh, r⟩
  · exact Or.inl h2
  · have hgl := hO' g (by rw [hv]; rfl)
    exact Or.inr ⟨g, cap, cur, hv, hg, (hb.block g (by omega)).trans hh, r⟩
theorem Sw6.mkB {w9 : World} (hsb : sb + 1 = V.heap.size) (hs2 : w.heap.size + 2 < sb) (hO' : ∀ k, (Value.slice A1 L.length c1).ownBlock = some k → k < sb) (hY : V.heap.size ≤ Y) (hYA : (Value.slice A8 L.length c8).ownBlock ≠ some Y)
    (hj : ∀ j, (Value.slice A8 L.length c8).ownBlock = some j → V.heap.size ≤ j)
    (h6 : Blk w9 Y #[.int .i64 q, .int .i64 s.x, .int .i64 s.y, .slice A8 L.length c8] 28)
    (h : Cur w9 (w.heap.size + 2) K ∧ Below w.heap.size w w9 ∧ Blk w9 w.heap.size #[.int .i64 0, .int .i64 0, .int .i64 0, .slice none 0 0] 28 ∧ Blk w9 (w.heap.size + 1) #[.int .i64 0, .int .i64 0, .int .i64 0, .slice none 0 0] 28 ∧ Blk w9 sb #[.int .i64 p, .int .i64 s.x, .int .i64 s.y, .slice A1 L.length c1] 28 ∧ w9.ownsRow (w.heap.size + 3) 46 3 (.slice A1 L.length c1) L.length (rows L) ∧ w9.ownsRow (w.heap.size + 3) 46 3 (.slice A8 L.length c8) L.length (rows L)) :
    Sw6 w w9 K sb Y p s A1 c1 L q A8 c8 L :=
  ⟨h.1, h.2.1, h.2.2.1, h.2.2.2.1, h.2.2.2.2.1, h6, h.2.2.2.2.2.1, h.2.2.2.2.2.2, fun e => by have := hO' _ e; omega, fun e => by have := hj _ e; omega, hYA, fun j e e' => by have := hj _ e; have := hO' _ e'; omega, hs2, by omega, by omega⟩
/-- The box of the second sheet is laid behind its rows. -/
theorem Sw6.mkC (hsb : sb + 1 = V.heap.size) (hs2 : w.heap.size + 2 < sb) (hO' : ∀ k, (Value.slice A1 L.length c1).ownBlock = some k → k < sb)
    (h : Cur w8 (w.heap.size + 2) K ∧ Below w.heap.size w w8 ∧ Blk w8 w.heap.size #[.int .i64 0, .int .i64 0, .int .i64 0, .slice none 0 0] 28 ∧ Blk w8 (w.heap.size + 1) #[.int .i64 0, .int .i64 0, .int .i64 0, .slice none 0 0] 28 ∧ Blk w8 sb #[.int .i64 p, .int .i64 s.x, .int .i64 s.y, .slice A1 L.length c1] 28 ∧ w8.ownsRow (w.heap.size + 3) 46 3 (.slice A1 L.length c1) L.length (rows L) ∧ w8.ownsRow (w.heap.size + 3) 46 3 (.slice A8 L.length c8) L.length (rows L) ∧
    (∀ j, (Value.slice A8 L.length c8).ownBlock = some j → V.heap.size ≤ j ∧ j < w8.heap.size) ∧ V.heap.size ≤ w8.heap.size) :
    Sw6 w (w8.alloc (.cells #[.int .i64 q, .int .i64 s.x, .int .i64 s.y, .slice A8 L.length c8] 28)) K sb w8.heap.size p s A1 c1 L q A8 c8 L := by
  obtain ⟨h1, h2, h3, h4, h5, h6, h7, h8, h9⟩ := h
  exact Sw6.mkB hsb hs2 hO' h9 (fun e => by have := (h8 _ e).2; omega) (fun j e => (h8 j e).1) (Blk.new _ _ _) ⟨h1.alloc _, h2.alloc (by omega) _, h3.alloc _, h4.alloc _, h5.alloc _, ownD h6, ownD h7⟩
/-- The box was laid ahead of them and is filled now. -/
theorem Sw6.mkD (hsb : sb + 1 = V.heap.size) (hs2 : w.heap.size + 2 < sb) (hO' : ∀ k, (Value.slice A1 L.length c1).ownBlock = some k → k < sb) (hY : V.heap.size ≤ Y) (hYA : (Value.slice A8 n8 c8).ownBlock ≠ some Y) (h6 : Blk w8 Y #[.int .i64 0, .int .i64 0, .int .i64 0, .slice none 0 0] 28)
    (h : Cur w8 (w.heap.size + 2) K ∧ Below w.heap.size w w8 ∧ Blk w8 w.heap.size #[.int .i64 0, .int .i64 0, .int .i64 0, .slice none 0 0] 28 ∧ Blk w8 (w.heap.size + 1) #[.int .i64 0, .int .i64 0, .int .i64 0, .slice none 0 0] 28 ∧ Blk w8 sb #[.int .i64 p, .int .i64 s.x, .int .i64 s.y, .slice A1 L.length c1] 28 ∧ w8.ownsRow (w.heap.size + 3) 46 3 (.slice A1 L.length c1) L.length (rows L) ∧ w8.ownsRow (w.heap.size + 3) 46 3 (.slice A8 L.length c8) L.length (rows L) ∧
    (∀ j, (Value.slice A8 L.length c8).ownBlock = some j → V.heap.size ≤ j ∧ j < w8.heap.size) ∧ V.heap.size ≤ w8.heap.size) :
    Sw6 w ((((w8.setCell ⟨Y, 0, none⟩ (.int .i64 q)).setCell ⟨Y, 1, none⟩ (.int .i64 s.x)).setCell ⟨Y, 2, none⟩ (.int .i64 s.y)).setCell ⟨Y, 3, none⟩ (.slice A8 L.length c8)) K sb Y p s A1 c1 L q A8 c8 L := by
  obtain ⟨h1, h2, h3, h4, h5, h7, h8, h9, h10⟩ := h
  have hA : (Value.slice A8 L.length c8).ownBlock ≠ some Y := fun e => hYA (by rw [← e]; cases A8 <;> rfl)
  have h1Y : (Value.slice A1 L.length c1).ownBlock ≠ some Y := fun e => by have := hO' _ e; omega
  exact Sw6.mkB hsb hs2 hO' hY hA (fun j e => (h9 j e).1) ((((h6.set 0 _).set 1 _).set 2 _).set 3 _)
    ⟨(((h1.put1 (by show _ < Y; omega)).put1 (by show _ < Y; omega)).put1 (by show _ < Y; omega)).put1 (by show _ < Y; omega), (((h2.setCell (by show _ ≤ Y; omega) _).setCell (by show _ ≤ Y; omega) _).setCell (by show _ ≤ Y; omega) _).setCell (by show _ ≤ Y; omega) _,
     (((h3.other (by omega) _).other (by omega) _).other (by omega) _).other (by omega) _, (((h4.other (by omega) _).other (by omega) _).other (by omega) _).other (by omega) _, (((h5.other (by omega) _).other (by omega) _).other (by omega) _).other (by omega) _,
     ownsRow_setCell_other (ownsRow_setCell_other (ownsRow_setCell_other (ownsRow_setCell_other h7 h1Y _) h1Y _) h1Y _) h1Y _, ownsRow_setCell_other (ownsRow_setCell_other (ownsRow_setCell_other (ownsRow_setCell_other h8 hA _) hA _) hA _) hA _⟩
theorem keepD8 {w : World} {o : Obj} {a b : Nat} {v0 v1 v2 v3 y0 y1 y2 y3 : Value} (h : w.cell? ⟨a, 0, none⟩ = some v0 ∧ w.cell? ⟨a, 1, none⟩ = some v1 ∧ w.cell? ⟨a, 2, none⟩ = some v2 ∧ w.cell? ⟨a, 3, none⟩ = some v3 ∧ w.cell? ⟨b, 0, none⟩ = some y0 ∧ w.cell? ⟨b, 1, none⟩ = some y1 ∧ w.cell? ⟨b, 2, none⟩ = some y2 ∧ w.cell? ⟨b, 3, none⟩ = some y3) : (w.alloc o).cell? ⟨a, 0, none⟩ = some v0 ∧ (w.alloc o).cell? ⟨a, 1, none⟩ = some v1 ∧ (w.alloc o).cell? ⟨a, 2, none⟩ = some v2 ∧ (w.alloc o).cell? ⟨a, 3, none⟩ = some v3 ∧ (w.alloc o).cell? ⟨b, 0, none⟩ = some y0 ∧ (w.alloc o).cell? ⟨b, 1, none⟩ = some y1 ∧ (w.alloc o).cell? ⟨b, 2, none⟩ = some y2 ∧ (w.alloc o).cell? ⟨b, 3, none⟩ = some y3 :=
  ⟨keepD1 h.1, keepD1 h.2.1, keepD1 h.2.2.1, keepD1 h.2.2.2.1, keepD1 h.2.2.2.2.1, keepD1 h.2.2.2.2.2.1, keepD1 h.2.2.2.2.2.2.1, keepD1 h.2.2.2.2.2.2.2⟩
theorem keepE8 {w : World} {a b : Nat} {v0 v1 v2 v3 y0 y1 y2 y3 : Value} (h : w.cell? ⟨a, 0, none⟩ = some v0 ∧ w.cell? ⟨a, 1, none⟩ = some v1 ∧ w.cell? ⟨a, 2, none⟩ = some v2 ∧ w.cell? ⟨a, 3, none⟩ = some v3 ∧ w.cell? ⟨b, 0, none⟩ = some y0 ∧ w.cell? ⟨b, 1, none⟩ = some y1 ∧ w.cell? ⟨b, 2, none⟩ = some y2 ∧ w.cell? ⟨b, 3, none⟩ = some y3) : w.drew.cell? ⟨a, 0, none⟩ = some v0 ∧ w.drew.cell? ⟨a, 1, none⟩ = some v1 ∧ w.drew.cell? ⟨a, 2, none⟩ = some v2 ∧ w.drew.cell? ⟨a, 3, none⟩ = some v3 ∧ w.drew.cell? ⟨b, 0, none⟩ = some y0 ∧ w.drew.cell? ⟨b, 1, none⟩ = some y1 ∧ w.drew.cell? ⟨b, 2, none⟩ = some y2 ∧ w.drew.cell? ⟨b, 3, none⟩ = some y3 := h
theorem keepP8 {w : World} {a b z : Nat} {v0 v1 v2 v3 y0 y1 y2 y3 x0 x1 x2 x3 : Value} (h : w.cell? ⟨a, 0, none⟩ = some v0 ∧ w.cell? ⟨a, 1, none⟩ = some v1 ∧ w.cell? ⟨a, 2, none⟩ = some v2 ∧ w.cell? ⟨a, 3, none⟩ = some v3 ∧ w.cell? ⟨b, 0, none⟩ = some y0 ∧ w.cell? ⟨b, 1, none⟩ = some y1 ∧ w.cell? ⟨b, 2, none⟩ = some y2 ∧ w.cell? ⟨b, 3, none⟩ = some y3) (ha : z ≠ a) (hb : z ≠ b) : ((((w.setCell ⟨z, 0, none⟩ x0).setCell ⟨z, 1, none⟩ x1).setCell ⟨z, 2, none⟩ x2).setCell ⟨z, 3, none⟩ x3).cell? ⟨a, 0, none⟩ = some v0 ∧ ((((w.setCell ⟨z, 0, none⟩ x0).setCell ⟨z, 1, none⟩ x1).setCell ⟨z, 2, none⟩ x2).setCell ⟨z, 3, none⟩ x3).cell? ⟨a, 1, none⟩ = some v1 ∧ ((((w.setCell ⟨z, 0, none⟩ x0).setCell ⟨z, 1, none⟩ x1).setCell ⟨z, 2, none⟩ x2).setCell ⟨z, 3, none⟩ x3).cell? ⟨a, 2, none⟩ = some v2 ∧ ((((w.setCell ⟨z, 0, none⟩ x0).setCell ⟨z, 1, none⟩ x1).setCell ⟨z, 2, none⟩ x2).setCell ⟨z, 3, none⟩ x3).cell? ⟨a, 3, none⟩ = some v3 ∧ ((((w.setCell ⟨z, 0, none⟩ x0).setCell ⟨z, 1, none⟩ x1).setCell ⟨z, 2, none⟩ x2).setCell ⟨z, 3, none⟩ x3).cell? ⟨b, 0, none⟩ = some y0 ∧ ((((w.setCell ⟨z, 0, none⟩ x0).setCell ⟨z, 1, none⟩ x1).setCell ⟨z, 2, none⟩ x2).setCell ⟨z, 3, none⟩ x3).cell? ⟨b, 1, none⟩ = some y1 ∧ ((((w.setCell ⟨z, 0, none⟩ x0).setCell ⟨z, 1, none⟩ x1).setCell ⟨z, 2, none⟩ x2).setCell ⟨z, 3, none⟩ x3).cell? ⟨b, 2, none⟩ = some y2 ∧ ((((w.setCell ⟨z, 0, none⟩ x0).setCell ⟨z, 1, none⟩ x1).setCell ⟨z, 2, none⟩ x2).setCell ⟨z, 3, none⟩ x3).cell? ⟨b, 3, none⟩ = some y3 :=
  ⟨keepP1 (keepP1 (keepP1 (keepP1 h.1 ha) ha) ha) ha, keepP1 (keepP1 (keepP1 (keepP1 h.2.1 ha) ha) ha) ha, keepP1 (keepP1 (keepP1 (keepP1 h.2.2.1 ha) ha) ha) ha, keepP1 (keepP1 (keepP1 (keepP1 h.2.2.2.1 ha) ha) ha) ha, keepP1 (keepP1 (keepP1 (keepP1 h.2.2.2.2.1 hb) hb) hb) hb, keepP1 (keepP1 (keepP1 (keepP1 h.2.2.2.2.2.1 hb) hb) hb) hb, keepP1 (keepP1 (keepP1 (keepP1 h.2.2.2.2.2.2.1 hb) hb) hb) hb, keepP1 (keepP1 (keepP1 (keepP1 h.2.2.2.2.2.2.2 hb) hb) hb) hb⟩
theorem Sw6.next {wx wy : World} {K' b6 : Nat} {M : List Rw} (h : Sw6 w wx K sb b6 p s A1 c1 L q A8 c8 M) (ho : Oth (w.heap.size + 2) wx wy) (hc : Cur wy (w.heap.size + 2) K') : Sw6 w wy K' sb b6 p s A1 c1 L q A8 c8 M :=
  ⟨hc, h.bel.trans (ho.below (B := w.heap.size) (by omega) (by have := h.bel.size; have := h.cur.lt; omega)), ho.blk h.z (by omega), ho.blk h.y (by omega), ho.blk h.sbx (by have := h.hs; omega), ho.blk h.b6x (by have := h.hb; omega), ho.own h.o1 (by omega), ho.own h.o8 (by omega), h.e1b, h.e8s, h.e8b, h.e18, h.hs, h.hb, h.hne⟩
theorem rows_setC : ∀ {M : List Rw} {i : Nat} {r : Rw} (_ : M[i]? = some r) (x : Int), rows (M.set i ⟨x, r.t⟩) = (rows M).set (i * 3) (.int .i64 x)
  | [], _, _, h, _ => by simp at h
  | a :: M, 0, r, h, x => by simp at h; subst h; simp [rows]
  | a :: M, i + 1, r, h, x => by
    have := rows_setC (M := M) (i := i) (r := r) (by simpa using h) x
    have e1 : (i + 1) * 3 = i * 3 + 1 + 1 + 1 := by omega
    simp only [rows, List.set_cons_succ, List.flatMap_cons, List.cons_append, List.nil_append, e1] at *
    rw [this]
theorem Sw6.putR {wx : World} {b6 g8 i : Nat} {M : List Rw} {r : Rw} (h : Sw6 w wx K sb b6 p s A1 c1 L q (some ⟨g8, 0, none⟩) c8 M) (hr : M[i]? = some r) (x : Int) :
    ∃ N, N.length = M.length ∧ Sw6 w (wx.setCell ⟨g8, i * 3, none⟩ (.int .i64 x)) K sb b6 p s A1 c1 L q (some ⟨g8, 0, none⟩) c8 N := by
  have hb := (h.o8.lt g8 rfl).1
  have st := (h.o8.stored (i * 3) (.int .i64 x)).1
  rw [← rows_setC hr] at st
  have hl : (M.set i ⟨x, r.t⟩).length = M.length := List.length_set
  rw [← hl] at st
  have hs := h.hs
  have e1 : (Value.slice A1 L.length c1).ownBlock ≠ some g8 := h.e18 g8 rfl
  refine ⟨M.set i ⟨x, r.t⟩, hl, h.cur.put1 (by show _ < g8; omega), h.bel.setCell (by show _ ≤ g8; omega) _, h.z.other (by omega) _, h.y.other (by omega) _, h.sbx.other (fun e => h.e8s (by rw [e]; rfl)) _, ?_, ownsRow_setCell_other h.o1 e1 _, st, h.e1b, h.e8s, h.e8b, h.e18, h.hs, h.hb, h.hne⟩
  rw [hl]
  exact h.b6x.other (fun e => h.e8b (by rw [e]; rfl)) _
/-- The second sheet's rows are cut. -/
structure SwE (w wx : World) (sb b6 : Nat) (p : Int) (s : Sp) (A1 : Option Addr) (c1 : Nat) (L : List Rw) (q : Int) (A8 : Option Addr) (i c8 : Nat) (M : List Rw) : Prop where
  bel : Below w.heap.size w wx
  z : Blk wx w.heap.size #[.int .i64 0, .int .i64 0, .int .i64 0, .slice none 0 0] 28
  y : Blk wx (w.heap.size + 1) #[.int .i64 0, .int .i64 0, .int .i64 0, .slice none 0 0] 28
  sbx : Blk wx sb #[.int .i64 p, .int .i64 s.x, .int .i64 s.y, .slice A1 L.length c1] 28
  b6x : Blk wx b6 #[.int .i64 q, .int .i64 s.x, .int .i64 s.y, .slice A8 i c8] 28
  o1 : wx.ownsRow (w.heap.size + 3) 46 3 (.slice A1 L.length c1) L.length (rows L)
  o8 : wx.ownsRow (w.heap.size + 3) 46 3 (.slice A8 M.length c8) M.length (rows M)
  hb : w.heap.size + 2 < b6
theorem Sw6.cutB {wx : World} {b6 i : Nat} {M : List Rw} (h : Sw6 w wx K sb b6 p s A1 c1 L q A8 c8 M) : SwE w (wx.setCell ⟨b6, 3, none⟩ (.slice A8 i c8)) sb b6 p s A1 c1 L q A8 i c8 M := by
  have hb := h.hb
  exact ⟨h.bel.setCell (by show _ ≤ b6; omega) _, h.z.other (by omega) _, h.y.other (by omega) _, h.sbx.other h.hne _, h.b6x.set 3 _, ownsRow_setCell_other h.o1 h.e1b _, ownsRow_setCell_other h.o8 h.e8b _, h.hb⟩
theorem Mem.takeR {w : World} {A : Option Addr} {L : List Rw} (h : Mem w A (rows L)) (k : Nat) : Mem w A (rows (L.take k)) := Mem.take (f := fun s : Rw => [Value.int .i64 s.c, Value.int .i64 s.t.x, Value.int .i64 s.t.y]) h k
theorem putZY {w wx : World} {A B : Option Addr} {n c m d : Nat} {L M : List Rw} {v0 v1 v2 v3 u0 u1 u2 u3 : Value} (hz : Blk wx w.heap.size #[.int .i64 0, .int .i64 0, .int .i64 0, .slice none 0 0] 28) (hy : Blk wx (w.heap.size + 1) #[.int .i64 0, .int .i64 0, .int .i64 0, .slice none 0 0] 28) (hb : Below w.heap.size w wx)
    (o1 : wx.ownsRow (w.heap.size + 3) 46 3 (.slice A n c) n (rows L)) (o2 : wx.ownsRow (w.heap.size + 3) 46 3 (.slice B m d) m (rows M)) :
    ((((((((wx.setCell ⟨w.heap.size, 0, none⟩ v0).setCell ⟨w.heap.size, 1, none⟩ v1).setCell ⟨w.heap.size, 2, none⟩ v2).setCell ⟨w.heap.size, 3, none⟩ v3).setCell ⟨w.heap.size + 1, 0, none⟩ u0).setCell ⟨w.heap.size + 1, 1, none⟩ u1).setCell ⟨w.heap.size + 1, 2, none⟩ u2).setCell ⟨w.heap.size + 1, 3, none⟩ u3).ownsRow (w.heap.size + 3) 46 3 (.slice A n c) n (rows L) ∧ ((((((((wx.setCell ⟨w.heap.size, 0, none⟩ v0).setCell ⟨w.heap.size, 1, none⟩ v1).setCell ⟨w.heap.size, 2, none⟩ v2).setCell ⟨w.heap.size, 3, none⟩ v3).setCell ⟨w.heap.size + 1, 0, none⟩ u0).setCell ⟨w.heap.size + 1, 1, none⟩ u1).setCell ⟨w.heap.size + 1, 2, none⟩ u2).setCell ⟨w.heap.size + 1, 3, none⟩ u3).ownsRow (w.heap.size + 3) 46 3 (.slice B m d) m (rows M) ∧ Below w.heap.size w ((((((((wx.setCell ⟨w.heap.size, 0, none⟩ v0).setCell ⟨w.heap.size, 1, none⟩ v1).setCell ⟨w.heap.size, 2, none⟩ v2).setCell ⟨w.heap.size, 3, none⟩ v3).setCell ⟨w.heap.size + 1, 0, none⟩ u0).setCell ⟨w.heap.size + 1, 1, none⟩ u1).setCell ⟨w.heap.size + 1, 2, none⟩ u2).setCell ⟨w.heap.size + 1, 3, none⟩ u3) ∧ Blk ((((((((wx.setCell ⟨w.heap.size, 0, none⟩ v0).setCell ⟨w.heap.size, 1, none⟩ v1).setCell ⟨w.heap.size, 2, none⟩ v2).setCell ⟨w.heap.size, 3, none⟩ v3).setCell ⟨w.heap.size + 1, 0, none⟩ u0).setCell ⟨w.heap.size + 1, 1, none⟩ u1).setCell ⟨w.heap.size + 1, 2, none⟩ u2).setCell ⟨w.heap.size + 1, 3, none⟩ u3) w.heap.size #[v0, v1, v2, v3] 28 ∧ Blk ((((((((wx.setCell ⟨w.heap.size, 0, none⟩ v0).setCell ⟨w.heap.size, 1, none⟩ v1).setCell ⟨w.heap.size, 2, none⟩ v2).setCell ⟨w.heap.size, 3, none⟩ v3).setCell ⟨w.heap.size + 1, 0, none⟩ u0).setCell ⟨w.heap.size + 1, 1, none⟩ u1).setCell ⟨w.heap.size + 1, 2, none⟩ u2).setCell ⟨w.heap.size + 1, 3, none⟩ u3) (w.heap.size + 1) #[u0, u1, u2, u3] 28 := by
  have a0 : w.heap.size < w.heap.size + 3 := by omega
  have a1 : w.heap.size + 1 < w.heap.size + 3 := by omega
  have c0 : w.heap.size ≤ w.heap.size := Nat.le_refl _
  have c1 : w.heap.size ≤ w.heap.size + 1 := by omega
  have st : ∀ {wx : World} {b j : Nat} {u : Value} {A : Option Addr} {n c : Nat} {L : List Rw} (_ : wx.ownsRow (w.heap.size + 3) 46 3 (.slice A n c) n (rows L)) (_ : b < w.heap.size + 3), (wx.setCell ⟨b, j, none⟩ u).ownsRow (w.heap.size + 3) 46 3 (.slice A n c) n (rows L) := fun h hb => ownsRow_setCell_below h hb _
  have sb : ∀ {wx : World} {b j : Nat} {u : Value} (_ : Below w.heap.size w wx) (_ : w.heap.size ≤ b), Below w.heap.size w (wx.setCell ⟨b, j, none⟩ u) := fun h hb => h.setCell hb _
  refine ⟨st (st (st (st (st (st (st (st (o1) a0) a0) a0) a0) a1) a1) a1) a1, st (st (st (st (st (st (st (st (o2) a0) a0) a0) a0) a1) a1) a1) a1, sb (sb (sb (sb (sb (sb (sb (sb (hb) c0) c0) c0) c0) c1) c1) c1) c1, ?_, ?_⟩
  · have hz4 := (((hz.set 0 v0).set 1 v1).set 2 v2).set 3 v3
    exact (((hz4.other (by omega) u0).other (by omega) u1).other (by omega) u2).other (by omega) u3
  · have hy4 := (((hy.other (g' := w.heap.size) (j := 0) (by omega) v0).other (g' := w.heap.size) (j := 1) (by omega) v1).other (g' := w.heap.size) (j := 2) (by omega) v2).other (g' := w.heap.size) (j := 3) (by omega) v3
    exact (((hy4.set 0 u0).set 1 u1).set 2 u2).set 3 u3
end
end Go.Proofs.YtdmgffcabjpihaaGreatDoor
