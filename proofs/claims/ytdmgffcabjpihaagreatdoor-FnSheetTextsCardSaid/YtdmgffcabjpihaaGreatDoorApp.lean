/-
  Appending to a row of the call's own while another row is read.
-/
import Derived.Test.YtdmgffcabjpihaaGreatDoorMem
import Derived.Maps.AppendAt
namespace Go.Proofs.YtdmgffcabjpihaaGreatDoor
open Go.RowKit

/-- The cells xs lie at A, in a block that is there and is not v's. -/
structure Far (w : World) (v : Value) (A : Option Addr) (xs : List Value) : Prop where
  mem : Mem w A xs
  lt : ∀ b o, A = some ⟨b, o, none⟩ → b < w.heap.size
  ne : ∀ j b o, v.ownBlock = some j → A = some ⟨b, o, none⟩ → b ≠ j

theorem Far.below {w w' : World} {v : Value} {A : Option Addr} {xs : List Value} (h : Far w v A xs) (hb : Below w.heap.size w w') : Far w' v A xs :=
  ⟨h.mem.below hb, fun b o e => Nat.lt_of_lt_of_le (h.lt b o e) hb.size, h.ne⟩
/-- A row of the call's own that was made behind v's block. -/
theorem Far.of_own {w : World} {v : Value} {A : Option Addr} {xs : List Value} {base : Nat} {e : TypeId} {size n c : Nat} (h : w.ownsRow base e size (.slice A n c) n xs) (hv : ∀ j, v.ownBlock = some j → j < base) : Far w v A xs := by
  have hk : ∀ b o, A = some ⟨b, o, none⟩ → base ≤ b ∧ b < w.heap.size := fun b o e => by
    subst e
    exact h.lt b rfl
  exact ⟨Mem.of_own h, fun b o e => (hk b o e).2, fun j b o hj e => by have := hv j hj; have := (hk b o e).1; omega⟩
/-- A row that was there ahead of v's block. -/
theorem Far.of_old {w : World} {v : Value} {A : Option Addr} {xs : List Value} {B : Nat} (h : Mem w A xs) (hlt : ∀ b o, A = some ⟨b, o, none⟩ → b < B) (hB : B ≤ w.heap.size) (hv : ∀ j, v.ownBlock = some j → B ≤ j) : Far w v A xs :=
  ⟨h, fun b o e => Nat.lt_of_lt_of_le (hlt b o e) hB, fun j b o hj e => by have := hv j hj; have := hlt b o e; omega⟩

theorem wpList_append_far {P : Program} (w : World) {ops : Array Oper} {rest : List Oper} {o : Oper} {a : Act} {Q : Exit → Act → World → Prop} (hgd : o.guard = none) (s x : Operand) (t : TypeId)
    (ho : o.op = .call { callee := .builtin .append, args := #[s, x], argTypes := #[t, t] })
    (base : Nat) (e : TypeId) (i : TypeInfo) (z : Value) (size bytes : Nat) (ht : P.underlying t = some (.slice e)) (hi : P.info? e = some i) (hz : i.zero = some z)
    (hsize : i.size = size) (hby : i.bytes = bytes) (hzs : z.cells.size = size) (hsz : 0 < size)
    (v : Value) (n : Nat) (xs : List Value) (hs : a.eval s = v) (hown : w.ownsRow base e size v n xs)
    (news : Array Value) (te : TypeId) (c : Nat) (hx : a.eval x = .slice (some ⟨w.heap.size, 0, none⟩) 1 c) (hl : news.size = size) (h1 : news.toList.all Value.oneCell' = true)
    (h63 : n ≤ 1073741824) (hbytes : bytes ≤ 65536) (hbase : base ≤ w.heap.size)
    (h : ∀ v' w', w'.ownsRow base e size v' (n + 1) (xs ++ news.toList) → Below base w w' → (∀ A ys, Far w v A ys → Far w' v' A ys) → wpList P ops Q rest (a.put o.dst v') w') : wpList P ops Q (o :: rest) a (w.alloc (.cells news te)) := by
  have hb2 : (n + 1) * bytes ≤ 140737488355328 := Nat.le_trans (Nat.mul_le_mul (Nat.succ_le_succ h63) hbytes) (by decide)
  refine wpList_append_own_at _ hgd s x t ho base e i z size bytes ht hi hz hsize hby hzs hsz v n xs hs (hown.alloc _) ⟨w.heap.size, 0, none⟩ 1 c news.toList hx (by simpa using hl) ?_ ?_ (by unfold maxLen; omega) hb2 (by simp; omega) ?_
  · intro j u hu
    rw [Addr.add_lit, Nat.zero_add, cell_of_row _ w.heap.size j news te (0, 0) (heap_alloc_new w _)]
    simpa using hu
  · intro u hu
    exact List.all_eq_true.1 h1 u hu
  · intro v' w' ho' hg _ hat
    refine h v' w' ho' (((Below.refl base w).alloc hbase _).grown hg (by simp; omega) (fun k hk => ?_)) (fun A ys hf => ?_)
    · exact (hown.lt k hk).1
    · have h2 := hf.below (w' := w.alloc (.cells news te)) ((Below.refl _ _).alloc (Nat.le_refl _) _)
      refine ⟨mem_grown h2.mem hg (fun b off hA heq => h2.ne b b off heq.symm hA rfl), fun b off e => Nat.lt_of_lt_of_le (h2.lt b off e) hg.size, fun j b off hj hA => ?_⟩
      rcases hat with hat | hat
      · rw [hat] at hj; exact h2.ne j b off hj hA
      · rw [hat] at hj
        have h3 := hf.lt b off hA
        have h4 : (w.alloc (.cells news te)).heap.size = j := Option.some.inj hj
        simp at h4
        omega

/-- The same inside a region that draws its order. -/
theorem step_append_far {P : Program} (w : World) {ops : Array Oper} {o : Oper} {a : Act} {K : Act → World → Prop} {Q : Exit → Act → World → Prop} {E : Prop} (hgd : o.guard = none) (s x : Operand) (t : TypeId)
    (ho : o.op = .call { callee := .builtin .append, args := #[s, x], argTypes := #[t, t] })
    (base : Nat) (e : TypeId) (i : TypeInfo) (z : Value) (size bytes : Nat) (ht : P.underlying t = some (.slice e)) (hi : P.info? e = some i) (hz : i.zero = some z)
    (hsize : i.size = size) (hby : i.bytes = bytes) (hzs : z.cells.size = size) (hsz : 0 < size)
    (v : Value) (n : Nat) (xs : List Value) (hs : a.eval s = v) (hown : w.ownsRow base e size v n xs)
    (news : Array Value) (te : TypeId) (c : Nat) (hx : a.eval x = .slice (some ⟨w.heap.size, 0, none⟩) 1 c) (hl : news.size = size) (h1 : news.toList.all Value.oneCell' = true)
    (h63 : n ≤ 1073741824) (hbytes : bytes ≤ 65536) (hbase : base ≤ w.heap.size)
    (h : ∀ v' w', w'.ownsRow base e size v' (n + 1) (xs ++ news.toList) → Below base w w' → (∀ A ys, Far w v A ys → Far w' v' A ys) → K (a.put o.dst v') w') :
    if Region.wanted o (yielded ops a.tmps) = true then Oper.wp P o a (w.alloc (.cells news te)) K Q else E := by
  have hw : Region.wanted o (yielded ops a.tmps) = true := by simp [Region.wanted, hgd]
  rw [if_pos hw]
  have hb2 : (n + 1) * bytes ≤ 140737488355328 := Nat.le_trans (Nat.mul_le_mul (Nat.succ_le_succ h63) hbytes) (by decide)
  obtain ⟨v', w', hrun, ho', hg, _, hat⟩ := run_append_own_at (P := P) (w.alloc (.cells news te)) base t o.type e i z size bytes ht hi hz hsize hby hzs hsz v n xs (hown.alloc _) ⟨w.heap.size, 0, none⟩ 1 c news.toList (by simpa using hl)
    (by
      intro j u hu
      rw [Addr.add_lit, Nat.zero_add, cell_of_row _ w.heap.size j news te (0, 0) (heap_alloc_new w _)]
      simpa using hu)
    (fun u hu => List.all_eq_true.1 h1 u hu) (by unfold maxLen; omega) hb2 (by simp; omega)
  unfold Oper.wp execOp
  simp only [ho, resolve, invoke, builtin, Sem.run_bind, Sem.run_pure, Result.andThen_ok, List.map_toArray, List.map_cons, List.map_nil, hs, hx, hrun]
  refine h v' w' ho' (((Below.refl base w).alloc hbase _).grown hg (by simp; omega) (fun k hk => ?_)) (fun A ys hf => ?_)
  · exact (hown.lt k hk).1
  · have h2 := hf.below (w' := w.alloc (.cells news te)) ((Below.refl _ _).alloc (Nat.le_refl _) _)
    refine ⟨mem_grown h2.mem hg (fun b off hA heq => h2.ne b b off heq.symm hA rfl), fun b off e => Nat.lt_of_lt_of_le (h2.lt b off e) hg.size, fun j b off hj hA => ?_⟩
    rcases hat with hat | hat
    · rw [hat] at hj; exact h2.ne j b off hj hA
    · rw [hat] at hj
      have h3 := hf.lt b off hA
      have h4 : (w.alloc (.cells news te)).heap.size = j := Option.some.inj hj
      simp at h4
      omega

/-- One cell in a block that is not v's. -/
theorem far_cell {w w' : World} {v v' : Value} (hfar : ∀ A ys, Far w v A ys → Far w' v' A ys) {b o : Nat} {u : Value} (h : w.cell? ⟨b, o, none⟩ = some u) (hne : ∀ j, v.ownBlock = some j → b ≠ j) : w'.cell? ⟨b, o, none⟩ = some u := by
  have h1 : Far w v (some ⟨b, o, none⟩) [u] := by
    refine ⟨fun _ => ⟨b, o, rfl, fun j x hx => ?_⟩, fun b' o' e => ?_, fun j b' o' hj e => ?_⟩
    · match j, hx with
      | 0, hx => simp at hx; subst hx; exact h
    · simp only [Option.some.injEq, Addr.mk.injEq, and_true] at e
      obtain ⟨rfl, rfl⟩ := e
      exact World.block_lt_of_cell? w _ h
    · simp only [Option.some.injEq, Addr.mk.injEq, and_true] at e
      obtain ⟨rfl, rfl⟩ := e
      exact hne j hj
  obtain ⟨b', o', e, hc⟩ := (hfar _ _ h1).mem (by simp)
  simp only [Option.some.injEq, Addr.mk.injEq, and_true] at e
  obtain ⟨rfl, rfl⟩ := e
  exact hc 0 u rfl
theorem keep5 {W w' : World} {p1 p2 p3 p4 p5 : Addr} {v1 v2 v3 v4 v5 : Value} (hq : Below W.heap.size W w') (h : W.cell? p1 = some v1 ∧ W.cell? p2 = some v2 ∧ W.cell? p3 = some v3 ∧ W.cell? p4 = some v4 ∧ W.cell? p5 = some v5) : w'.cell? p1 = some v1 ∧ w'.cell? p2 = some v2 ∧ w'.cell? p3 = some v3 ∧ w'.cell? p4 = some v4 ∧ w'.cell? p5 = some v5 :=
  ⟨keep1 hq h.1, keep1 hq h.2.1, keep1 hq h.2.2.1, keep1 hq h.2.2.2.1, keep1 hq h.2.2.2.2⟩
theorem keep5f {W w' : World} {v v' : Value} (hfar : ∀ A ys, Far W v A ys → Far w' v' A ys) {b1 b2 b3 o1 o2 o3 o4 o5 : Nat} {v1 v2 v3 v4 v5 : Value} (h : W.cell? ⟨b1, o1, none⟩ = some v1 ∧ W.cell? ⟨b2, o2, none⟩ = some v2 ∧ W.cell? ⟨b2, o3, none⟩ = some v3 ∧ W.cell? ⟨b3, o4, none⟩ = some v4 ∧ W.cell? ⟨b3, o5, none⟩ = some v5)
    (hv : ∀ j, v.ownBlock = some j → b1 ≠ j ∧ b2 ≠ j ∧ b3 ≠ j) : w'.cell? ⟨b1, o1, none⟩ = some v1 ∧ w'.cell? ⟨b2, o2, none⟩ = some v2 ∧ w'.cell? ⟨b2, o3, none⟩ = some v3 ∧ w'.cell? ⟨b3, o4, none⟩ = some v4 ∧ w'.cell? ⟨b3, o5, none⟩ = some v5 :=
  ⟨far_cell hfar h.1 (fun j hj => (hv j hj).1), far_cell hfar h.2.1 (fun j hj => (hv j hj).2.1), far_cell hfar h.2.2.1 (fun j hj => (hv j hj).2.1), far_cell hfar h.2.2.2.1 (fun j hj => (hv j hj).2.2), far_cell hfar h.2.2.2.2 (fun j hj => (hv j hj).2.2)⟩
theorem own_int {w : World} {base : Nat} {e : TypeId} {g n c k : Nat} {M : List Int} {x : Int} (h : w.ownsRow base e 1 (.slice (some ⟨g, 0, none⟩) n c) n (ints M)) (hk : M[k]? = some x) : w.cell? ⟨g, k, none⟩ = some (.int .i64 x) := by
  obtain ⟨b, off, e, hc⟩ := (Mem.of_own h).int hk
  simp only [Option.some.injEq, Addr.mk.injEq, and_true] at e
  obtain ⟨rfl, rfl⟩ := e
  simpa using hc
end Go.Proofs.YtdmgffcabjpihaaGreatDoor
