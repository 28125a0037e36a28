/-
  Contracts: a transition's moves.
-/
import Derived.Test.YthehcjfljjfnmaaGreatTr
import Derived.Test.YthehcjfljjfnmaaGreatBase
import Derived.Deep.RegionHeld3
namespace Go.Proofs.YthehcjfljjfnmaaGreat
open Go.RowKit Go.Sort

def mvT (F T : List Sp) (n : Int) (P : List Int) : List Mv := (List.range P.length).map fun i => ⟨F.getD i ⟨0, 0⟩, T.getD (P.getD i 0).toNat ⟨0, 0⟩, n⟩
theorem mvT_len (F T : List Sp) (n : Int) (P : List Int) : (mvT F T n P).length = P.length := by simp [mvT]
theorem mvT_at {F T : List Sp} {n : Int} {P : List Int} {k y : Nat} {s t : Sp} (hs : F[k]? = some s) (hy : P[k]? = some (y : Int)) (ht : T[y]? = some t) : (mvT F T n P)[k]? = some ⟨s, t, n⟩ := by
  have hk := (List.getElem?_eq_some_iff.1 hy).1
  rw [mvT, List.getElem?_map, List.getElem?_range hk]
  simp [List.getD_eq_getElem?_getD, hs, hy, ht]
theorem mvT_take {F T : List Sp} {n : Int} {P : List Int} {k y : Nat} {s t : Sp} (hs : F[k]? = some s) (hy : P[k]? = some (y : Int)) (ht : T[y]? = some t) : (mvT F T n P).take (k + 1) = (mvT F T n P).take k ++ [⟨s, t, n⟩] := by
  rw [List.take_add_one, mvT_at hs hy ht]; rfl
/-- A call hands back moves in memory of its own. -/
def RetMv (w : World) (V : List Mv) (e : Ending) (w' : World) : Prop :=
  ∃ A' c', e = .returned (.slice A' V.length c') ∧ w'.ownsRow w.heap.size 26 5 (.slice A' V.length c') V.length (moves V) ∧ Below w.heap.size w w'
theorem RetMv.mk {w w' : World} {V : List Mv} {v : Value} {n base : Nat} (ho : w'.ownsRow base 26 5 v n (moves V)) (hn : n = V.length) (hbase : w.heap.size ≤ base) (hb : Below w.heap.size w w') : RetMv w V (.returned v) w' := by
  subst hn
  obtain ⟨A', c', rfl⟩ := own_form ho
  exact ⟨A', c', rfl, own_base ho hbase, hb⟩

theorem step_append_farE {P : Program} (w W : World) {ops : Array Oper} {o : Oper} {a : Act} {K : Act → World → Prop} {Q : Exit → Act → World → Prop} {E : Prop} (hgd : o.guard = none) (s x : Operand) (t : TypeId)
    (ho : o.op = .call { callee := .builtin .append, args := #[s, x], argTypes := #[t, t] })
    (base : Nat) (e : TypeId) (i : TypeInfo) (z : Value) (size bytes : Nat) (ht : P.underlying t = some (.slice e)) (hi : P.info? e = some i) (hz : i.zero = some z)
    (hsize : i.size = size) (hby : i.bytes = bytes) (hzs : z.cells.size = size) (hsz : 0 < size)
    (v : Value) (n : Nat) (xs : List Value) (hs : a.eval s = v) (hown : w.ownsRow base e size v n xs)
    (news : Array Value) (te : TypeId) (c : Nat) (hx : a.eval x = .slice (some ⟨w.heap.size, 0, none⟩) 1 c) (hW : W = w.alloc (.cells news te)) (hl : news.size = size) (h1 : news.toList.all Value.oneCell' = true)
    (h63 : n ≤ 1073741824) (hbytes : bytes ≤ 65536) (hbase : base ≤ w.heap.size)
    (h : ∀ v' w', w'.ownsRow base e size v' (n + 1) (xs ++ news.toList) → Below base w w' → (∀ A ys, Far w v A ys → Far w' v' A ys) → K (a.put o.dst v') w') :
    if Region.wanted o (yielded ops a.tmps) = true then Oper.wp P o a W K Q else E := by
  subst hW
  exact step_append_far w hgd s x t ho base e i z size bytes ht hi hz hsize hby hzs hsz v n xs hs hown news te c hx hl h1 h63 hbytes hbase h

theorem keep7 {W w' : World} {p0 p1 p2 p3 p4 p5 p6 : Addr} {v0 v1 v2 v3 v4 v5 v6 : Value} (hq : Below W.heap.size W w') (h : W.cell? p0 = some v0 ∧ W.cell? p1 = some v1 ∧ W.cell? p2 = some v2 ∧ W.cell? p3 = some v3 ∧ W.cell? p4 = some v4 ∧ W.cell? p5 = some v5 ∧ W.cell? p6 = some v6) : w'.cell? p0 = some v0 ∧ w'.cell? p1 = some v1 ∧ w'.cell? p2 = some v2 ∧ w'.cell? p3 = some v3 ∧ w'.cell? p4 = some v4 ∧ w'.cell? p5 = some v5 ∧ w'.cell? p6 = some v6 :=
  ⟨keep1 hq h.1, keep1 hq h.2.1, keep1 hq h.2.2.1, keep1 hq h.2.2.2.1, keep1 hq h.2.2.2.2.1, keep1 hq h.2.2.2.2.2.1, keep1 hq h.2.2.2.2.2.2⟩
theorem keep7f {W w' : World} {v v' : Value} (hfar : ∀ A ys, Far W v A ys → Far w' v' A ys) {b0 o0 b1 o1 b2 o2 b3 o3 b4 o4 b5 o5 b6 o6 : Nat} {v0 v1 v2 v3 v4 v5 v6 : Value} (h : W.cell? ⟨b0, o0, none⟩ = some v0 ∧ W.cell? ⟨b1, o1, none⟩ = some v1 ∧ W.cell? ⟨b2, o2, none⟩ = some v2 ∧ W.cell? ⟨b3, o3, none⟩ = some v3 ∧ W.cell? ⟨b4, o4, none⟩ = some v4 ∧ W.cell? ⟨b5, o5, none⟩ = some v5 ∧ W.cell? ⟨b6, o6, none⟩ = some v6) (hne : ∀ j, v.ownBlock = some j → b0 < j ∧ b1 < j ∧ b2 < j ∧ b3 < j ∧ b4 < j ∧ b5 < j ∧ b6 < j) : w'.cell? ⟨b0, o0, none⟩ = some v0 ∧ w'.cell? ⟨b1, o1, none⟩ = some v1 ∧ w'.cell? ⟨b2, o2, none⟩ = some v2 ∧ w'.cell? ⟨b3, o3, none⟩ = some v3 ∧ w'.cell? ⟨b4, o4, none⟩ = some v4 ∧ w'.cell? ⟨b5, o5, none⟩ = some v5 ∧ w'.cell? ⟨b6, o6, none⟩ = some v6 :=
  ⟨far_cell hfar h.1 (fun j hj => by have := hne j hj; omega), far_cell hfar h.2.1 (fun j hj => by have := hne j hj; omega), far_cell hfar h.2.2.1 (fun j hj => by have := hne j hj; omega), far_cell hfar h.2.2.2.1 (fun j hj => by have := hne j hj; omega), far_cell hfar h.2.2.2.2.1 (fun j hj => by have := hne j hj; omega), far_cell hfar h.2.2.2.2.2.1 (fun j hj => by have := hne j hj; omega), far_cell hfar h.2.2.2.2.2.2 (fun j hj => by have := hne j hj; omega)⟩
set_option maxRecDepth 100000 in
set_option maxHeartbeats 3200000 in
theorem asMoves_any (A : Option Addr) (c : Nat) (F : List Sp) (B : Option Addr) (d : Nat) (T : List Sp) (n : Int) (C : Option Addr) (f : Nat) (P : List Int) (w : World) (hf : Mem w A (spots F)) (ht : Mem w B (spots T)) (hp : Mem w C (ints P)) (lf : F.length ≤ 1048576) (lt : T.length ≤ 1048576) (lp : P.length ≤ 1048576) (hfc : F.length ≤ c) (htc : T.length ≤ d) (hpc : P.length ≤ f) (hok : trOk F T n P = true) : Calls Tryz.prog 48 #[.agg #[.slice A F.length c, .slice B T.length d, .int .i64 n, .slice C P.length f]] w (RetMv w (mvT F T n P)) := by
  obtain ⟨i0, hi, hz0, hz1, hz2⟩ := info_parts info_move
  have HPL := Lib.hid (trOk_iff.1 hok).2.2.2.2
  have HFT := Lib.hid (trOk_iff.1 hok).2.2.1
  have HPL2 := Lib.hid (plOk_iff.1 HPL.out).2
  clear hok
  go_enter Tryz.func48, Tryz.ntmps48
  go_wp2
  have HBX : Below (w.heap.size + 1) (w.alloc (.cells #[.slice A F.length c, .slice B T.length d, .int .i64 n, .slice C P.length f] 34)) (w.alloc (.cells #[.slice A F.length c, .slice B T.length d, .int .i64 n, .slice C P.length f] 34)) := by (repeat (first | exact Below.refl _ _ | assumption | (refine Below.alloc ?_ (by first | omega | (simp; done) | (simp; omega)) _) | (refine Below.setCell ?_ (by first | omega | (simp; done) | (simp; omega)) _) | (refine Below.drew ?_) | (refine Below.drewN ?_ _) | (refine Below.next (by assumption) ?_ (by first | omega | (simp; done) | (simp; omega)))))
  go_loopw [3, 4, 5, 9] (fun v _ _ i wr => ∃ k : Nat, k ≤ P.length ∧ i = .int .i64 k ∧ wr.ownsRow (w.heap.size + 1) 26 5 v k (moves ((mvT F T n P).take k)) ∧ Below (w.heap.size + 1) (w.alloc (.cells #[.slice A F.length c, .slice B T.length d, .int .i64 n, .slice C P.length f] 34)) wr) (fun _ _ _ i _ => P.length - (intOf i).toNat)
  case atStart => exact ⟨0, by omega, rfl, World.ownsRow_nil _ _ _ _, HBX⟩
  case round =>
    obtain ⟨k, hk, rfl, hown, hbx⟩ := hrel
    clear HBX
    obtain ⟨hb, hsz⟩ := boxed hbx
    have q0 : wr.cell? ⟨w.heap.size, 0, none⟩ = some (.slice A F.length c) := boxed_cell hbx 0
    have q1 : wr.cell? ⟨w.heap.size, 1, none⟩ = some (.slice B T.length d) := boxed_cell hbx 1
    have q2 : wr.cell? ⟨w.heap.size, 2, none⟩ = some (.int .i64 n) := boxed_cell hbx 2
    by_cases hlt : k < P.length
    · obtain ⟨x, hx⟩ := some_of_lt hlt
      obtain ⟨y, rfl, hy⟩ := pl_nat HPL.out hx
      have hkF : k < F.length := by have := HPL2.out; omega
      have hyT : y < T.length := by have := HFT.out; omega
      obtain ⟨s, hs⟩ := some_of_lt (L := F) (k := k) hkF
      obtain ⟨t, ht2⟩ := some_of_lt (L := T) (k := y) hyT
      obtain ⟨b1, o1, rfl, e1, e2⟩ := hf.spot hs
      obtain ⟨b2, o2, rfl, e3, e4⟩ := ht.spot ht2
      obtain ⟨b3, o3, rfl, e5⟩ := (hp.below hb).int hx
      have l1 : b1 < w.heap.size := World.block_lt_of_cell? w _ e1
      have l2 : b2 < w.heap.size := World.block_lt_of_cell? w _ e3
      have r1 := keep1 hb e1
      have r2 := keep1 hb e2
      have r3 := keep1 hb e3
      have r4 := keep1 hb e4
      have HV := Lib.hid hown.lt
      have HT := Lib.hid (mvT_take (n := n) hs hx ht2)
      have HW := Lib.hid hown
      have HW2 := Lib.hid (own_drew hown)
      clear hs hx ht2 hown e1 e2 e3 e4
      go_wp2
      have HS1 := Lib.hid (show wr.cell? ⟨w.heap.size, 0, none⟩ = some (.slice (some ⟨b1, o1, none⟩) F.length c) ∧ wr.cell? ⟨w.heap.size, 1, none⟩ = some (.slice (some ⟨b2, o2, none⟩) T.length d) ∧ wr.cell? ⟨w.heap.size, 2, none⟩ = some (.int .i64 n) ∧ wr.cell? ⟨b1, o1 + k * 2, none⟩ = some (.int .i64 s.x) ∧ wr.cell? ⟨b1, o1 + k * 2 + 1, none⟩ = some (.int .i64 s.y) ∧ wr.cell? ⟨b2, o2 + y * 2, none⟩ = some (.int .i64 t.x) ∧ wr.cell? ⟨b2, o2 + y * 2 + 1, none⟩ = some (.int .i64 t.y) from ⟨q0, q1, q2, r1, r2, r3, r4⟩)
      go_region_held3 (fun w' => w'.cell? ⟨w.heap.size, 0, none⟩ = some (.slice (some ⟨b1, o1, none⟩) F.length c) ∧ w'.cell? ⟨w.heap.size, 1, none⟩ = some (.slice (some ⟨b2, o2, none⟩) T.length d) ∧ w'.cell? ⟨w.heap.size, 2, none⟩ = some (.int .i64 n) ∧ w'.cell? ⟨b1, o1 + k * 2, none⟩ = some (.int .i64 s.x) ∧ w'.cell? ⟨b1, o1 + k * 2 + 1, none⟩ = some (.int .i64 s.y) ∧ w'.cell? ⟨b2, o2 + y * 2, none⟩ = some (.int .i64 t.x) ∧ w'.cell? ⟨b2, o2 + y * 2 + 1, none⟩ = some (.int .i64 t.y))
        (first | assumption | exact keep7 (by assumption) (by assumption) | exact HS1.out | exact keep7 ((Below.refl _ _).alloc (Nat.le_refl _) _) HS1.out | exact keep7 ((Below.refl _ _).alloc (Nat.le_refl _) _) (by assumption) | exact keep7f hfar' HS1.out (fun j hj => by have := HV.out j hj; omega) | (simp [go_sem, *]; done))
        ((refine step_append_farE wr.drew _ rfl (.tmp 14) (.tmp 28) 71 rfl (w.heap.size + 1) 26 i0 (.agg #[.int .i64 0, .int .i64 0, .int .i64 0, .int .i64 0, .int .i64 0]) 5 40 Tryz.underlying71 hi hz0 hz1 hz2 rfl (by omega) _ _ _ rfl HW2.out #[.int .i64 s.x, .int .i64 s.y, .int .i64 t.x, .int .i64 t.y, .int .i64 n] 26 1 rfl rfl rfl rfl (by omega) (by omega) (by show w.heap.size + 1 ≤ wr.heap.size; omega) ?_; intro v' w2 hown' hb2 hfar'))
      go_wp2
      go_roundw
      case rel =>
        exact ⟨k + 1, by omega, by go_num, by rw [HT.out, moves_snoc]; exact hown', (Below.drew hbx).trans hb2⟩
      case measure => simp [intOf]; omega
    · go_wp2
      go_ret
      have e1 : k = P.length := by omega
      subst e1
      rw [List.take_of_length_le (by rw [mvT_len]; omega)] at hown
      exact RetMv.mk hown (mvT_len F T n P).symm (by omega) hb

set_option maxRecDepth 100000 in
set_option maxHeartbeats 3200000 in
theorem movesOf_any (A : Option Addr) (c : Nat) (F : List Sp) (B : Option Addr) (d : Nat) (T : List Sp) (n : Int) (C : Option Addr) (f : Nat) (P : List Int) (w : World) (hf : Mem w A (spots F)) (ht : Mem w B (spots T)) (hp : Mem w C (ints P)) (lf : F.length ≤ 1048576) (lt : T.length ≤ 1048576) (lp : P.length ≤ 1048576) (hfc : F.length ≤ c) (htc : T.length ≤ d) (hpc : P.length ≤ f) (hok : trOk F T n P = true) : Calls Tryz.prog 47 #[.agg #[.slice A F.length c, .slice B T.length d, .int .i64 n, .slice C P.length f]] w (RetMv w (mvT F T n P)) := by
  obtain ⟨i0, hi, hz0, hz1, hz2⟩ := info_parts info_move
  have HPL := Lib.hid (trOk_iff.1 hok).2.2.2.2
  have HFT := Lib.hid (trOk_iff.1 hok).2.2.1
  have HPL2 := Lib.hid (plOk_iff.1 HPL.out).2
  clear hok
  go_enter Tryz.func47, Tryz.ntmps47
  go_wp2
  have HBX : Below (w.heap.size + 1) (w.alloc (.cells #[.slice A F.length c, .slice B T.length d, .int .i64 n, .slice C P.length f] 34)) ((w.alloc (.cells #[.slice A F.length c, .slice B T.length d, .int .i64 n, .slice C P.length f] 34)).alloc (.cells #[] 26)) := by (repeat (first | exact Below.refl _ _ | assumption | (refine Below.alloc ?_ (by first | omega | (simp; done) | (simp; omega)) _) | (refine Below.setCell ?_ (by first | omega | (simp; done) | (simp; omega)) _) | (refine Below.drew ?_) | (refine Below.drewN ?_ _) | (refine Below.next (by assumption) ?_ (by first | omega | (simp; done) | (simp; omega)))))
  go_loopw [3, 4, 5, 10] (fun v _ _ i wr => ∃ k : Nat, k ≤ P.length ∧ i = .int .i64 k ∧ wr.ownsRow (w.heap.size + 1) 26 5 v k (moves ((mvT F T n P).take k)) ∧ Below (w.heap.size + 1) (w.alloc (.cells #[.slice A F.length c, .slice B T.length d, .int .i64 n, .slice C P.length f] 34)) wr) (fun _ _ _ i _ => P.length - (intOf i).toNat)
  case atStart => exact ⟨0, by omega, rfl, own_empty _ _ (by simp) (by omega) rfl, HBX⟩
  case round =>
    obtain ⟨k, hk, rfl, hown, hbx⟩ := hrel
    clear HBX
    obtain ⟨hb, hsz⟩ := boxed hbx
    have q0 : wr.cell? ⟨w.heap.size, 0, none⟩ = some (.slice A F.length c) := boxed_cell hbx 0
    have q1 : wr.cell? ⟨w.heap.size, 1, none⟩ = some (.slice B T.length d) := boxed_cell hbx 1
    have q2 : wr.cell? ⟨w.heap.size, 2, none⟩ = some (.int .i64 n) := boxed_cell hbx 2
    by_cases hlt : k < P.length
    · obtain ⟨x, hx⟩ := some_of_lt hlt
      obtain ⟨y, rfl, hy⟩ := pl_nat HPL.out hx
      have hkF : k < F.length := by have := HPL2.out; omega
      have hyT : y < T.length := by have := HFT.out; omega
      obtain ⟨s, hs⟩ := some_of_lt (L := F) (k := k) hkF
      obtain ⟨t, ht2⟩ := some_of_lt (L := T) (k := y) hyT
      obtain ⟨b1, o1, rfl, e1, e2⟩ := hf.spot hs
      obtain ⟨b2, o2, rfl, e3, e4⟩ := ht.spot ht2
      obtain ⟨b3, o3, rfl, e5⟩ := (hp.below hb).int hx
      have l1 : b1 < w.heap.size := World.block_lt_of_cell? w _ e1
      have l2 : b2 < w.heap.size := World.block_lt_of_cell? w _ e3
      have r1 := keep1 hb e1
      have r2 := keep1 hb e2
      have r3 := keep1 hb e3
      have r4 := keep1 hb e4
      have HV := Lib.hid hown.lt
      have HT := Lib.hid (mvT_take (n := n) hs hx ht2)
      have HW := Lib.hid hown
      have HW2 := Lib.hid (own_drew hown)
      clear hs hx ht2 hown e1 e2 e3 e4
      go_wp2
      have HS1 := Lib.hid (show wr.cell? ⟨w.heap.size, 0, none⟩ = some (.slice (some ⟨b1, o1, none⟩) F.length c) ∧ wr.cell? ⟨w.heap.size, 1, none⟩ = some (.slice (some ⟨b2, o2, none⟩) T.length d) ∧ wr.cell? ⟨w.heap.size, 2, none⟩ = some (.int .i64 n) ∧ wr.cell? ⟨b1, o1 + k * 2, none⟩ = some (.int .i64 s.x) ∧ wr.cell? ⟨b1, o1 + k * 2 + 1, none⟩ = some (.int .i64 s.y) ∧ wr.cell? ⟨b2, o2 + y * 2, none⟩ = some (.int .i64 t.x) ∧ wr.cell? ⟨b2, o2 + y * 2 + 1, none⟩ = some (.int .i64 t.y) from ⟨q0, q1, q2, r1, r2, r3, r4⟩)
      go_region_held3 (fun w' => w'.cell? ⟨w.heap.size, 0, none⟩ = some (.slice (some ⟨b1, o1, none⟩) F.length c) ∧ w'.cell? ⟨w.heap.size, 1, none⟩ = some (.slice (some ⟨b2, o2, none⟩) T.length d) ∧ w'.cell? ⟨w.heap.size, 2, none⟩ = some (.int .i64 n) ∧ w'.cell? ⟨b1, o1 + k * 2, none⟩ = some (.int .i64 s.x) ∧ w'.cell? ⟨b1, o1 + k * 2 + 1, none⟩ = some (.int .i64 s.y) ∧ w'.cell? ⟨b2, o2 + y * 2, none⟩ = some (.int .i64 t.x) ∧ w'.cell? ⟨b2, o2 + y * 2 + 1, none⟩ = some (.int .i64 t.y))
        (first | assumption | exact keep7 (by assumption) (by assumption) | exact HS1.out | exact keep7 ((Below.refl _ _).alloc (Nat.le_refl _) _) HS1.out | exact keep7 ((Below.refl _ _).alloc (Nat.le_refl _) _) (by assumption) | exact keep7f hfar' HS1.out (fun j hj => by have := HV.out j hj; omega) | (simp [go_sem, *]; done))
        ((refine step_append_farE wr.drew _ rfl (.tmp 15) (.tmp 29) 71 rfl (w.heap.size + 1) 26 i0 (.agg #[.int .i64 0, .int .i64 0, .int .i64 0, .int .i64 0, .int .i64 0]) 5 40 Tryz.underlying71 hi hz0 hz1 hz2 rfl (by omega) _ _ _ rfl HW2.out #[.int .i64 s.x, .int .i64 s.y, .int .i64 t.x, .int .i64 t.y, .int .i64 n] 26 1 rfl rfl rfl rfl (by omega) (by omega) (by show w.heap.size + 1 ≤ wr.heap.size; omega) ?_; intro v' w2 hown' hb2 hfar'))
      go_wp2
      go_roundw
      case rel =>
        exact ⟨k + 1, by omega, by go_num, by rw [HT.out, moves_snoc]; exact hown', (Below.drew hbx).trans hb2⟩
      case measure => simp [intOf]; omega
    · go_wp2
      go_ret
      have e1 : k = P.length := by omega
      subst e1
      rw [List.take_of_length_le (by rw [mvT_len]; omega)] at hown
      exact RetMv.mk hown (mvT_len F T n P).symm (by omega) hb

end Go.Proofs.YthehcjfljjfnmaaGreat
