/-
  Contracts: ShortenSheet, the program's and the reference's.
-/
import Derived.Test.YtdmgffcabjpihaaGreatDoorShk
import Derived.Test.YtdmgffcabjpihaaGreatDoorApp
import Derived.Deep.RegionHeld3
import Derived.Deep.DeepCutAuto
namespace Go.Proofs.YtdmgffcabjpihaaGreatDoor
open Go.RowKit Go.Sort

def stepJ (J : List Mv) (m : Mv) : List Mv := match J.getLast? with
  | some l => if joinOk l m then J.set (J.length - 1) (joinM l m) else J ++ [m]
  | none => J ++ [m]
def jnTo (M : List Mv) : Nat → List Mv
  | 0 => []
  | k + 1 => match M[k]? with
    | some m => stepJ (jnTo M k) m
    | none => jnTo M k
theorem jn_first {M : List Mv} {k : Nat} {m : Mv} (hm : M[k]? = some m) (h : (jnTo M k).length = 0) : jnTo M (k + 1) = jnTo M k ++ [m] := by
  have e : jnTo M k = [] := List.length_eq_zero_iff.1 h
  rw [jnTo, hm, e]; rfl
theorem jn_yes {M : List Mv} {k i : Nat} {m l : Mv} (hm : M[k]? = some m) (h : (jnTo M k).length = i + 1) (hl : (jnTo M k)[i]? = some l) (hj : joinOk l m = true) : jnTo M (k + 1) = (jnTo M k).set i (joinM l m) := by
  have e : (jnTo M k).getLast? = some l := by rw [List.getLast?_eq_getElem?, h]; exact hl
  simp only [jnTo, hm, stepJ, e, hj, if_true, h, Nat.add_sub_cancel]
theorem jn_no {M : List Mv} {k i : Nat} {m l : Mv} (hm : M[k]? = some m) (h : (jnTo M k).length = i + 1) (hl : (jnTo M k)[i]? = some l) (hj : joinOk l m = false) : jnTo M (k + 1) = jnTo M k ++ [m] := by
  have e : (jnTo M k).getLast? = some l := by rw [List.getLast?_eq_getElem?, h]; exact hl
  simp only [jnTo, hm, stepJ, e, hj, Bool.false_eq_true, if_false]
theorem jn_all {M : List Mv} (hM : ∀ (k : Nat) (m : Mv), M[k]? = some m → isMv m = true) : ∀ k, (∀ m, m ∈ jnTo M k → isMv m = true) ∧ (jnTo M k).length ≤ k
  | 0 => ⟨by simp [jnTo], by simp [jnTo]⟩
  | k + 1 => by
    obtain ⟨h1, h2⟩ := jn_all hM k
    rw [jnTo]
    cases hm : M[k]? with
    | none => exact ⟨h1, by show (jnTo M k).length ≤ k + 1; omega⟩
    | some m =>
      have hmm := hM k m hm
      simp only [stepJ]
      cases hl : (jnTo M k).getLast? with
      | none =>
        refine ⟨fun x hx => ?_, by simp; omega⟩
        rcases List.mem_append.1 hx with h | h
        · exact h1 x h
        · simp at h; subst h; exact hmm
      | some l =>
        simp only
        split
        · rename_i hj
          refine ⟨fun x hx => ?_, by simp; omega⟩
          rcases List.mem_or_eq_of_mem_set hx with h | h
          · exact h1 x h
          · subst h
            simp only [joinOk, Bool.and_eq_true] at hj
            exact hj.1.1.1
        · refine ⟨fun x hx => ?_, by simp; omega⟩
          rcases List.mem_append.1 hx with h | h
          · exact h1 x h
          · simp at h; subst h; exact hmm
def toRw (m : Mv) : Rw := ⟨m.c, m.t⟩
def ssV (p : Int) (s : Sp) (L : List Rw) : List Rw := if shOk p s L then (jnTo (mvs s L) L.length).map toRw else []
def ssP (p : Int) (s : Sp) (L : List Rw) : Int := if shOk p s L then p else 0
def ssS (p : Int) (s : Sp) (L : List Rw) : Sp := if shOk p s L then s else ⟨0, 0⟩
/-- A call hands back a sheet in memory of its own, and a bool. -/
def RetSh (w : World) (P : Int) (S : Sp) (V : List Rw) (ok : Bool) (e : Ending) (w' : World) : Prop :=
  ∃ A' c', e = .returned (.tuple #[.agg #[.int .i64 P, .int .i64 S.x, .int .i64 S.y, .slice A' V.length c'], .bool ok]) ∧ w'.ownsRow w.heap.size 46 3 (.slice A' V.length c') V.length (rows V) ∧ Below w.heap.size w w'
theorem keep10 {W w' : World} {p0 p1 p2 p3 p4 p5 p6 p7 p8 p9 : Addr} {v0 v1 v2 v3 v4 v5 v6 v7 v8 v9 : Value} (hq : Below W.heap.size W w') (h : W.cell? p0 = some v0 ∧ W.cell? p1 = some v1 ∧ W.cell? p2 = some v2 ∧ W.cell? p3 = some v3 ∧ W.cell? p4 = some v4 ∧ W.cell? p5 = some v5 ∧ W.cell? p6 = some v6 ∧ W.cell? p7 = some v7 ∧ W.cell? p8 = some v8 ∧ W.cell? p9 = some v9) :
    w'.cell? p0 = some v0 ∧ w'.cell? p1 = some v1 ∧ w'.cell? p2 = some v2 ∧ w'.cell? p3 = some v3 ∧ w'.cell? p4 = some v4 ∧ w'.cell? p5 = some v5 ∧ w'.cell? p6 = some v6 ∧ w'.cell? p7 = some v7 ∧ w'.cell? p8 = some v8 ∧ w'.cell? p9 = some v9 := by
  obtain ⟨h0, h1, h2, h3, h4, h5, h6, h7, h8, h9⟩ := h
  exact ⟨keep1 hq h0, keep1 hq h1, keep1 hq h2, keep1 hq h3, keep1 hq h4, keep1 hq h5, keep1 hq h6, keep1 hq h7, keep1 hq h8, keep1 hq h9⟩
theorem grown5 (w : World) (r : Nat) (v0 v1 v2 v3 v4 : Value) : w.grownBy (((((w.setCell ⟨r, 0, none⟩ v0).setCell ⟨r, 1, none⟩ v1).setCell ⟨r, 2, none⟩ v2).setCell ⟨r, 3, none⟩ v3).setCell ⟨r, 4, none⟩ v4) (some r) := by
  have h : ∀ (w : World) (j : Nat) (v : Value), w.grownBy (w.setCell ⟨r, j, none⟩ v) (some r) := fun w j v => ⟨rfl, rfl, rfl, by simp, fun k _ hne => heap_setCell_other w ⟨r, j, none⟩ k v (fun e => hne (by rw [show k = r from e]))⟩
  exact grown_trans (grown_trans (grown_trans (grown_trans (h _ _ _) (h _ _ _)) (h _ _ _)) (h _ _ _)) (h _ _ _)
theorem keep10g {W w' : World} {r b c : Nat} {o0 o1 o2 o3 o4 o5 o6 o7 o8 o9 : Nat} {v0 v1 v2 v3 v4 v5 v6 v7 v8 v9 : Value} (hg : W.grownBy w' (some r)) (h : W.cell? ⟨b, o0, none⟩ = some v0 ∧ W.cell? ⟨b, o1, none⟩ = some v1 ∧ W.cell? ⟨b, o2, none⟩ = some v2 ∧ W.cell? ⟨b, o3, none⟩ = some v3 ∧ W.cell? ⟨b, o4, none⟩ = some v4 ∧ W.cell? ⟨c, o5, none⟩ = some v5 ∧ W.cell? ⟨c, o6, none⟩ = some v6 ∧ W.cell? ⟨c, o7, none⟩ = some v7 ∧ W.cell? ⟨c, o8, none⟩ = some v8 ∧ W.cell? ⟨c, o9, none⟩ = some v9) (hb : b ≠ r) (hc : c ≠ r) :
    w'.cell? ⟨b, o0, none⟩ = some v0 ∧ w'.cell? ⟨b, o1, none⟩ = some v1 ∧ w'.cell? ⟨b, o2, none⟩ = some v2 ∧ w'.cell? ⟨b, o3, none⟩ = some v3 ∧ w'.cell? ⟨b, o4, none⟩ = some v4 ∧ w'.cell? ⟨c, o5, none⟩ = some v5 ∧ w'.cell? ⟨c, o6, none⟩ = some v6 ∧ w'.cell? ⟨c, o7, none⟩ = some v7 ∧ w'.cell? ⟨c, o8, none⟩ = some v8 ∧ w'.cell? ⟨c, o9, none⟩ = some v9 := by
  obtain ⟨h0, h1, h2, h3, h4, h5, h6, h7, h8, h9⟩ := h
  have k : ∀ {a : Addr} {v : Value}, W.cell? a = some v → a.block ≠ r → w'.cell? a = some v := fun h hne => hg.cell h (fun e => hne (Option.some.inj e))
  exact ⟨k h0 hb, k h1 hb, k h2 hb, k h3 hb, k h4 hb, k h5 hc, k h6 hc, k h7 hc, k h8 hc, k h9 hc⟩
theorem keep10d {W : World} {p0 p1 p2 p3 p4 p5 p6 p7 p8 p9 : Addr} {v0 v1 v2 v3 v4 v5 v6 v7 v8 v9 : Value} (h : W.cell? p0 = some v0 ∧ W.cell? p1 = some v1 ∧ W.cell? p2 = some v2 ∧ W.cell? p3 = some v3 ∧ W.cell? p4 = some v4 ∧ W.cell? p5 = some v5 ∧ W.cell? p6 = some v6 ∧ W.cell? p7 = some v7 ∧ W.cell? p8 = some v8 ∧ W.cell? p9 = some v9) : W.drew.cell? p0 = some v0 ∧ W.drew.cell? p1 = some v1 ∧ W.drew.cell? p2 = some v2 ∧ W.drew.cell? p3 = some v3 ∧ W.drew.cell? p4 = some v4 ∧ W.drew.cell? p5 = some v5 ∧ W.drew.cell? p6 = some v6 ∧ W.drew.cell? p7 = some v7 ∧ W.drew.cell? p8 = some v8 ∧ W.drew.cell? p9 = some v9 := h
theorem blk_five {w : World} {b : Nat} {t : TypeId} {x0 x1 x2 x3 x4 v0 v1 v2 v3 v4 : Value} (h : Blk w b #[x0, x1, x2, x3, x4] t) : Blk (((((w.setCell ⟨b, 0, none⟩ v0).setCell ⟨b, 1, none⟩ v1).setCell ⟨b, 2, none⟩ v2).setCell ⟨b, 3, none⟩ v3).setCell ⟨b, 4, none⟩ v4) b #[v0, v1, v2, v3, v4] t :=
  ((((h.set 0 v0).set 1 v1).set 2 v2).set 3 v3).set 4 v4
theorem below_five {w w' : World} {B b : Nat} {v0 v1 v2 v3 v4 : Value} (h : Below B w w') (hb : B ≤ b) : Below B w (((((w'.setCell ⟨b, 0, none⟩ v0).setCell ⟨b, 1, none⟩ v1).setCell ⟨b, 2, none⟩ v2).setCell ⟨b, 3, none⟩ v3).setCell ⟨b, 4, none⟩ v4) :=
  ((((h.setCell hb _).setCell hb _).setCell hb _).setCell hb _).setCell hb _
theorem Far.set {w : World} {v u : Value} {A : Option Addr} {xs : List Value} {g j : Nat} (h : Far w v A xs) (hv : v.ownBlock = some g) : Far (w.setCell ⟨g, j, none⟩ u) v A xs :=
  ⟨fun hne => by
    obtain ⟨b, off, e, hc⟩ := h.mem hne
    exact ⟨b, off, e, fun j' x hx => (World.cell?_of_block (a := ⟨b, off + j', none⟩) (heap_setCell_other w ⟨g, j, none⟩ b u (h.ne g b off hv e))).trans (hc j' x hx)⟩, fun b o e => by simpa using h.lt b o e, h.ne⟩
theorem below_five2 {w w' : World} {B b j0 j1 j2 j3 j4 : Nat} {v0 v1 v2 v3 v4 : Value} (h : Below B w w') (hb : B ≤ b) : Below B w (((((w'.setCell ⟨b, j0, none⟩ v0).setCell ⟨b, j1, none⟩ v1).setCell ⟨b, j2, none⟩ v2).setCell ⟨b, j3, none⟩ v3).setCell ⟨b, j4, none⟩ v4) :=
  ((((h.setCell hb _).setCell hb _).setCell hb _).setCell hb _).setCell hb _
theorem own_oth {w : World} {base : Nat} {e : TypeId} {size : Nat} {v u : Value} {n : Nat} {xs : List Value} {p : Addr} (h : w.ownsRow base e size v n xs) (hne : v.ownBlock ≠ some p.block) : (w.setCell p u).ownsRow base e size v n xs := by
  refine ⟨h.1, ?_⟩
  rcases h.2 with h2 | ⟨k, cap, cur, h2, h3, h4, h5⟩
  · exact .inl h2
  · exact .inr ⟨k, cap, cur, h2, h3, (heap_setCell_other w p k u (fun e => hne (by rw [h2, ← e]; rfl))).trans h4, h5⟩
theorem mem_eq {w w' : World} {A : Option Addr} {xs : List Value} (h : Mem w A xs) (he : ∀ b o, A = some ⟨b, o, none⟩ → w'.heap[b]? = w.heap[b]?) : Mem w' A xs := fun hne => by
  obtain ⟨b, off, e, hc⟩ := h hne
  exact ⟨b, off, e, fun j x hx => (World.cell?_of_block (a := ⟨b, off + j, none⟩) (he b off e)).trans (hc j x hx)⟩
/-- While the rows of the short sheet are put together: the sheet lies in block bo, its rows in a row of their own. -/
def Lp2 (w wr : World) (bo B1 : Nat) (p : Int) (s : Sp) (J : List Mv) (Av : Option Addr) (k : Nat) : Prop :=
  ∃ rv : Value, Blk wr bo #[.int .i64 p, .int .i64 s.x, .int .i64 s.y, rv] 28 ∧ wr.ownsRow B1 46 3 rv k (rows ((J.take k).map toRw)) ∧ Mem wr Av (moves J) ∧ rv.ownBlock ≠ some bo ∧ (∀ b o, Av = some ⟨b, o, none⟩ → b < wr.heap.size ∧ b ≠ bo ∧ rv.ownBlock ≠ some b) ∧ Blk wr (w.heap.size + 1) #[.int .i64 0, .int .i64 0, .int .i64 0, .slice none 0 0] 28 ∧ rv.ownBlock ≠ some (w.heap.size + 1) ∧ bo ≠ w.heap.size + 1 ∧ w.heap.size ≤ bo ∧ B1 ≤ wr.heap.size ∧ Below w.heap.size w wr
theorem toRw_snoc {J : List Mv} {k : Nat} {m : Mv} (h : J[k]? = some m) : (J.take (k + 1)).map toRw = (J.take k).map toRw ++ [⟨m.c, m.t⟩] := by
  rw [List.take_add_one, h]; simp [toRw]
theorem joinV_yes {a b : Mv} (h : joinOk a b = true) : joinV a b = joinM a b := by simp [joinV, h]
theorem Far.ofRow {w w' : World} {v : Value} {A : Option Addr} {xs : List Value} {base : Nat} {e : TypeId} {size n c : Nat} (h : w.ownsRow base e size (.slice A n c) n xs) (hb : Below w.heap.size w w') (hv : ∀ j, v.ownBlock = some j → j < base ∨ w.heap.size ≤ j) : Far w' v A xs := by
  have hk : ∀ b o, A = some ⟨b, o, none⟩ → base ≤ b ∧ b < w.heap.size := fun b o e => by
    subst e
    exact h.lt b rfl
  exact ⟨(Mem.of_own h).below hb, fun b o e => Nat.lt_of_lt_of_le (hk b o e).2 hb.size, fun j b o hj e => by have := hv j hj; have := hk b o e; omega⟩

set_option maxRecDepth 100000 in
set_option maxHeartbeats 6400000 in
theorem spec_ShortenSheet_any (p : Int) (s : Sp) (A : Option Addr) (c : Nat) (L : List Rw) (w : World) (hm : Mem w A (rows L)) (hl : L.length ≤ 1048576) : Calls Tryz.prog 11 #[.agg #[.int .i64 p, .int .i64 s.x, .int .i64 s.y, .slice A L.length c]] w (RetSh w (ssP p s L) (ssS p s L) (ssV p s L) (shOk p s L)) := by
  obtain ⟨i0, hi, hz0, hz1, hz2⟩ := info_parts info_move
  obtain ⟨r0, hr, hr0, hr1, hr2⟩ := info_parts info_row
  have e0 : Hid (shOk p s L = false → ssP p s L = 0 ∧ ssS p s L = ⟨0, 0⟩ ∧ ssV p s L = []) := Lib.hid (fun h => by simp [ssP, ssS, ssV, h])
  have e1 : Hid (shOk p s L = true → ssP p s L = p ∧ ssS p s L = s ∧ ssV p s L = (jnTo (mvs s L) L.length).map toRw) := Lib.hid (fun h => by simp [ssP, ssS, ssV, h])
  have BS0 : Blk ((w.alloc (.cells #[.int .i64 p, .int .i64 s.x, .int .i64 s.y, .slice A L.length c] 28)).alloc (.cells #[.int .i64 0, .int .i64 0, .int .i64 0, .slice none 0 0] 28)) w.heap.size #[.int .i64 p, .int .i64 s.x, .int .i64 s.y, .slice A L.length c] 28 := (Blk.new w _ _).alloc _
  have BZ0 : Blk ((w.alloc (.cells #[.int .i64 p, .int .i64 s.x, .int .i64 s.y, .slice A L.length c] 28)).alloc (.cells #[.int .i64 0, .int .i64 0, .int .i64 0, .slice none 0 0] 28)) (w.heap.size + 1) #[.int .i64 0, .int .i64 0, .int .i64 0, .slice none 0 0] 28 := by have h := Blk.new (w.alloc (.cells #[.int .i64 p, .int .i64 s.x, .int .i64 s.y, .slice A L.length c] 28)) #[.int .i64 0, .int .i64 0, .int .i64 0, .slice none 0 0] 28; rwa [size_allocJ] at h
  cases h1 : shOk p s L
  all_goals
    have H1 := Lib.hid h1
    clear h1
    go_enter Tryz.func11, Tryz.ntmps11
    go_wp2_with fail
    refine (shGood_any p s A c L _ (hm.below (by (repeat (first | exact Below.refl _ _ | assumption | (refine Below.alloc ?_ (by first | omega | (simp; done) | (simp; omega)) _) | (refine Below.setCell ?_ (by first | omega | (simp; done) | (simp; omega)) _) | (refine Below.drew ?_) | (refine Below.drewN ?_ _) | (refine Below.next (by assumption) ?_ (by first | omega | (simp; done) | (simp; omega))))))) hl).mono ?_
    rintro e w1 ⟨he, hq1⟩
    rw [H1.out] at he
    subst he
    have hb1 : Below w.heap.size w w1 := by (repeat (first | exact Below.refl _ _ | assumption | (refine Below.alloc ?_ (by first | omega | (simp; done) | (simp; omega)) _) | (refine Below.setCell ?_ (by first | omega | (simp; done) | (simp; omega)) _) | (refine Below.drew ?_) | (refine Below.drewN ?_ _) | (refine Below.next (by assumption) ?_ (by first | omega | (simp; done) | (simp; omega)))))
    have hz1_ := hq1.size
    rw [size_allocJ, size_allocJ] at hz1_
    have gz1 : w.heap.size < w1.heap.size := by omega
    have gz2 : w.heap.size + 1 < w1.heap.size := by omega
    have BS1 := Lib.hid (BS0.below hq1 (by simp; omega))
    have BZ1 := Lib.hid (BZ0.below hq1 (by simp))
    have m1_0 : w1.cell? ⟨w.heap.size, 0, none⟩ = some (.int .i64 p) := (BS1.out.cell 0).trans rfl
    have m1_1 : w1.cell? ⟨w.heap.size, 1, none⟩ = some (.int .i64 s.x) := (BS1.out.cell 1).trans rfl
    have m1_2 : w1.cell? ⟨w.heap.size, 2, none⟩ = some (.int .i64 s.y) := (BS1.out.cell 2).trans rfl
    have m1_3 : w1.cell? ⟨w.heap.size, 3, none⟩ = some (.slice A L.length c) := (BS1.out.cell 3).trans rfl
    have z1_0 : w1.cell? ⟨w.heap.size + 1, 0, none⟩ = some (.int .i64 0) := (BZ1.out.cell 0).trans rfl
    have z1_1 : w1.cell? ⟨w.heap.size + 1, 1, none⟩ = some (.int .i64 0) := (BZ1.out.cell 1).trans rfl
    have z1_2 : w1.cell? ⟨w.heap.size + 1, 2, none⟩ = some (.int .i64 0) := (BZ1.out.cell 2).trans rfl
    have z1_3 : w1.cell? ⟨w.heap.size + 1, 3, none⟩ = some (.slice none 0 0) := (BZ1.out.cell 3).trans rfl
    have y1_0 : w1.frozen? ⟨w.heap.size + 1, 0, none⟩ = false := BZ1.out.frozen 0
    have y1_1 : w1.frozen? ⟨w.heap.size + 1, 1, none⟩ = false := BZ1.out.frozen 1
    have y1_2 : w1.frozen? ⟨w.heap.size + 1, 2, none⟩ = false := BZ1.out.frozen 2
    have y1_3 : w1.frozen? ⟨w.heap.size + 1, 3, none⟩ = false := BZ1.out.frozen 3
    clear BS0 BZ0 hq1
  · go_wp2_with fail
    have hbF : Below w.heap.size w ((((w1.setCell ⟨w.heap.size + 1, 0, none⟩ (.int .i64 0)).setCell ⟨w.heap.size + 1, 1, none⟩ (.int .i64 0)).setCell ⟨w.heap.size + 1, 2, none⟩ (.int .i64 0)).setCell ⟨w.heap.size + 1, 3, none⟩ (.slice none 0 0)) := ((((hb1.setCell (by (try dsimp only); omega) _).setCell (by (try dsimp only); omega) _).setCell (by (try dsimp only); omega) _).setCell (by (try dsimp only); omega) _)
    have HZZ : Blk ((((w1.setCell ⟨w.heap.size + 1, 0, none⟩ (.int .i64 0)).setCell ⟨w.heap.size + 1, 1, none⟩ (.int .i64 0)).setCell ⟨w.heap.size + 1, 2, none⟩ (.int .i64 0)).setCell ⟨w.heap.size + 1, 3, none⟩ (.slice none 0 0)) (w.heap.size + 1) #[.int .i64 0, .int .i64 0, .int .i64 0, .slice none 0 0] 28 := ((((BZ1.out.set 0 _).set 1 _).set 2 _).set 3 _)
    generalize ((((w1.setCell ⟨w.heap.size + 1, 0, none⟩ (.int .i64 0)).setCell ⟨w.heap.size + 1, 1, none⟩ (.int .i64 0)).setCell ⟨w.heap.size + 1, 2, none⟩ (.int .i64 0)).setCell ⟨w.heap.size + 1, 3, none⟩ (.slice none 0 0)) = WF at *
    have C0 : WF.cell? ⟨w.heap.size + 1, 0, none⟩ = some (.int .i64 0) := (HZZ.cell 0).trans rfl
    have C1 : WF.cell? ⟨w.heap.size + 1, 1, none⟩ = some (.int .i64 0) := (HZZ.cell 1).trans rfl
    have C2 : WF.cell? ⟨w.heap.size + 1, 2, none⟩ = some (.int .i64 0) := (HZZ.cell 2).trans rfl
    have C3 : WF.cell? ⟨w.heap.size + 1, 3, none⟩ = some (.slice none 0 0) := (HZZ.cell 3).trans rfl
    obtain ⟨g1, g2, g3⟩ := e0.out H1.out
    refine bodyPost_ret (v := .tuple #[.agg #[.int .i64 0, .int .i64 0, .int .i64 0, .slice none 0 0], .bool false]) (by simp [results, Tryz.results11, go_sem, C0, C1, C2, C3]) rfl ?_
    rw [g1, g2, g3]
    exact ⟨none, 0, rfl, World.ownsRow_nil _ _ _ _, hbF⟩
  have HSH := Lib.hid (shOk_iff.1 H1.out)
  have hN8 : L.length ≤ 8 := HSH.out.2.2.1
  have HMV : Hid (∀ (k : Nat) (m : Mv), (mvs s L)[k]? = some m → isMv m = true) := Lib.hid (fun k m h => mvs_ok HSH.out.2.1 HSH.out.2.2.2 h)
  have HJA := Lib.hid (jn_all HMV.out)
  have HML := Lib.hid (mvs_len s L)
  go_wp2_with fail
  refine (shRows_any p s A c L _ (hm.below (by (repeat (first | exact Below.refl _ _ | assumption | (refine Below.alloc ?_ (by first | omega | (simp; done) | (simp; omega)) _) | (refine Below.setCell ?_ (by first | omega | (simp; done) | (simp; omega)) _) | (refine Below.drew ?_) | (refine Below.drewN ?_ _) | (refine Below.next (by assumption) ?_ (by first | omega | (simp; done) | (simp; omega))))))) hl).mono ?_
  rintro e w2 ⟨A3, c3, rfl, ho3, hq3⟩
  rw [HML.out] at ho3 ⊢
  have hb2 : Below w.heap.size w w2 := by (repeat (first | exact Below.refl _ _ | assumption | (refine Below.alloc ?_ (by first | omega | (simp; done) | (simp; omega)) _) | (refine Below.setCell ?_ (by first | omega | (simp; done) | (simp; omega)) _) | (refine Below.drew ?_) | (refine Below.drewN ?_ _) | (refine Below.next (by assumption) ?_ (by first | omega | (simp; done) | (simp; omega)))))
  have hz2_ := hq3.size
  rw [size_allocJ] at hz2_
  have BS2 := Lib.hid ((BS1.out.alloc (.cells #[.int .i64 p, .int .i64 s.x, .int .i64 s.y, .slice none 0 0] 28)).below hq3 (by simp; omega))
  have BZ2 := Lib.hid ((BZ1.out.alloc (.cells #[.int .i64 p, .int .i64 s.x, .int .i64 s.y, .slice none 0 0] 28)).below hq3 (by simp; omega))
  have BO2 := Lib.hid ((Blk.new w1 #[.int .i64 p, .int .i64 s.x, .int .i64 s.y, .slice none 0 0] 28).below hq3 (by simp))
  have HO := Lib.hid (show w2.ownsRow w2.heap.size 49 5 (.slice none 0 0) 0 (moves (jnTo (mvs s L) 0)) from World.ownsRow_nil _ _ _ _)
  have hbS : Below w2.heap.size w2 w2 := Below.refl _ _
  have HF := Lib.hid (show Far w2 (.slice none 0 0) A3 (moves (mvs s L)) from Far.ofRow ho3 (Below.refl _ _) (fun j hj => by simp [Value.ownBlock] at hj))
  clear ho3 hq3
  go_wp2_with fail
  go_loopw [5, 7, 8, 9, 10, 25] (fun v _ _ _ _ i_ wr => ∃ (k j : Nat), k ≤ L.length ∧ i_ = .int .i64 k ∧ wr.ownsRow w2.heap.size 49 5 v j (moves (jnTo (mvs s L) k)) ∧ Hid (j = (jnTo (mvs s L) k).length) ∧ j ≤ k ∧ Hid (Far wr v A3 (moves (mvs s L))) ∧ Below w2.heap.size w2 wr) (fun _ _ _ _ _ i_ _ => L.length - (intOf i_).toNat)
  case atStart => exact ⟨0, 0, by omega, rfl, HO.out, Lib.hid rfl, by omega, HF, hbS⟩
  case round =>
    obtain ⟨k, j, hk, rfl, hown, HJ, hj, HF1, hbx⟩ := hrel
    clear HO HF hbS
    have hsz := hbx.size
    obtain ⟨Av, cv, rfl⟩ := own_form hown
    by_cases hlt : k < L.length
    · obtain ⟨m, hm_⟩ := some_of_lt (L := mvs s L) (k := k) (by rw [HML.out]; exact hlt)
      have HM := Lib.hid (HMV.out k m hm_)
      obtain ⟨b5, o5, rfl, f0, f1, f2, f3, f4⟩ := HF1.out.mem.move hm_
      have HK := Lib.hid hm_
      have HO2 := Lib.hid (own_below hown ((Below.refl _ _).alloc (Nat.le_refl _) (.cells #[.int .i64 m.f.x, .int .i64 m.f.y, .int .i64 m.t.x, .int .i64 m.t.y, .int .i64 m.c] 49)))
      have HF2 := Lib.hid (HF1.out.below ((Below.refl _ _).alloc (Nat.le_refl _) (.cells #[.int .i64 m.f.x, .int .i64 m.f.y, .int .i64 m.t.x, .int .i64 m.t.y, .int .i64 m.c] 49)))
      have hbx2 : Below w2.heap.size w2 (wr.alloc (.cells #[.int .i64 m.f.x, .int .i64 m.f.y, .int .i64 m.t.x, .int .i64 m.t.y, .int .i64 m.c] 49)) := hbx.alloc hsz _
      clear hm_ hown
      rcases j with _ | i
      · go_wp2_with (at_builtin; refine wpList_append_far _ rfl (.tmp 49) (.tmp 51) 32 rfl w2.heap.size 49 i0 (.agg #[.int .i64 0, .int .i64 0, .int .i64 0, .int .i64 0, .int .i64 0]) 5 40 Tryz.underlying32 hi hz0 hz1 hz2 rfl (by omega) _ _ _ rfl HO2.out _ _ _ (congrArg (fun g => Value.slice (some ⟨g, 0, none⟩) 1 1) (by simp)) rfl rfl (by omega) (by omega) (by first | omega | (simp; omega)) ?_; intro v' w6 hown' hb6 hfar')
        go_roundw
        case rel =>
          have e3 := jn_first HK.out HJ.out.symm
          exact ⟨k + 1, 1, by omega, by go_num, by rw [e3, moves_snoc]; exact hown', Lib.hid (by rw [e3, List.length_append, ← HJ.out]; rfl), by omega, Lib.hid (hfar' _ _ HF2.out), hbx2.trans hb6⟩
        case measure => simp [intOf]; omega
      · obtain ⟨l, hl_⟩ := some_of_lt (L := jnTo (mvs s L) k) (k := i) (by have := HJ.out; omega)
        have HL := Lib.hid ((HJA.out k).1 l (List.mem_of_getElem? hl_))
        have HLI := Lib.hid hl_
        obtain ⟨g, rfl, hg1, hg2⟩ := own_addr HO2.out (by omega)
        obtain ⟨g', o', e', c0, c1, c2, c3, c4⟩ := (Mem.of_own HO2.out).move hl_
        cases e'
        simp only [Nat.zero_add] at c0 c1 c2 c3 c4
        have hgl : g < wr.heap.size + 1 := by rw [size_allocJ] at hg2; exact hg2
        clear hl_
        have HS := Lib.hid (show (wr.alloc (.cells #[.int .i64 m.f.x, .int .i64 m.f.y, .int .i64 m.t.x, .int .i64 m.t.y, .int .i64 m.c] 49)).cell? ⟨g, i * 5, none⟩ = some (.int .i64 l.f.x) ∧ (wr.alloc (.cells #[.int .i64 m.f.x, .int .i64 m.f.y, .int .i64 m.t.x, .int .i64 m.t.y, .int .i64 m.c] 49)).cell? ⟨g, i * 5 + 1, none⟩ = some (.int .i64 l.f.y) ∧ (wr.alloc (.cells #[.int .i64 m.f.x, .int .i64 m.f.y, .int .i64 m.t.x, .int .i64 m.t.y, .int .i64 m.c] 49)).cell? ⟨g, i * 5 + 2, none⟩ = some (.int .i64 l.t.x) ∧ (wr.alloc (.cells #[.int .i64 m.f.x, .int .i64 m.f.y, .int .i64 m.t.x, .int .i64 m.t.y, .int .i64 m.c] 49)).cell? ⟨g, i * 5 + 3, none⟩ = some (.int .i64 l.t.y) ∧ (wr.alloc (.cells #[.int .i64 m.f.x, .int .i64 m.f.y, .int .i64 m.t.x, .int .i64 m.t.y, .int .i64 m.c] 49)).cell? ⟨g, i * 5 + 4, none⟩ = some (.int .i64 l.c) ∧ (wr.alloc (.cells #[.int .i64 m.f.x, .int .i64 m.f.y, .int .i64 m.t.x, .int .i64 m.t.y, .int .i64 m.c] 49)).cell? ⟨wr.heap.size, 0, none⟩ = some (.int .i64 m.f.x) ∧ (wr.alloc (.cells #[.int .i64 m.f.x, .int .i64 m.f.y, .int .i64 m.t.x, .int .i64 m.t.y, .int .i64 m.c] 49)).cell? ⟨wr.heap.size, 1, none⟩ = some (.int .i64 m.f.y) ∧ (wr.alloc (.cells #[.int .i64 m.f.x, .int .i64 m.f.y, .int .i64 m.t.x, .int .i64 m.t.y, .int .i64 m.c] 49)).cell? ⟨wr.heap.size, 2, none⟩ = some (.int .i64 m.t.x) ∧ (wr.alloc (.cells #[.int .i64 m.f.x, .int .i64 m.f.y, .int .i64 m.t.x, .int .i64 m.t.y, .int .i64 m.c] 49)).cell? ⟨wr.heap.size, 3, none⟩ = some (.int .i64 m.t.y) ∧ (wr.alloc (.cells #[.int .i64 m.f.x, .int .i64 m.f.y, .int .i64 m.t.x, .int .i64 m.t.y, .int .i64 m.c] 49)).cell? ⟨wr.heap.size, 4, none⟩ = some (.int .i64 m.c) from ⟨c0, c1, c2, c3, c4, by simp [go_sem], by simp [go_sem], by simp [go_sem], by simp [go_sem], by simp [go_sem]⟩)
        clear c0 c1 c2 c3 c4
        have i0_ : (0 : Int) ≤ (i : Int) := by omega
        have i1_ : (i : Int) < ((i + 1 : Nat) : Int) := by omega
        have i2_ : (i : Int) < (i : Int) + 1 := by omega
        have i3_ : (i : Int) + 1 - 1 = (i : Int) := by omega
        have i4_ : ((i + 1 : Nat) : Int) - 1 = (i : Int) := by omega
        have i5_ : IntKind.i64.wrap (i : Int) = (i : Int) := IntWalk.i64_in _ (by omega)
        have i6_ : i < i + 1 := by omega
        obtain ⟨b0, hb0⟩ : ∃ v, joinOk l m = v := ⟨_, rfl⟩
        obtain ⟨V, hV⟩ : ∃ v, joinV l m = v := ⟨_, rfl⟩
        have CJ := Lib.hid (fun w => spec_JoinMoves_any l m HL.out HM.out w)
        rw [hb0, hV] at CJ
        have HV := Lib.hid hV
        have HB0 := Lib.hid hb0
        have HBM := Lib.hid (Blk.new wr #[.int .i64 m.f.x, .int .i64 m.f.y, .int .i64 m.t.x, .int .i64 m.t.y, .int .i64 m.c] 49)
        have hsW : (wr.alloc (.cells #[.int .i64 m.f.x, .int .i64 m.f.y, .int .i64 m.t.x, .int .i64 m.t.y, .int .i64 m.c] 49)).heap.size = wr.heap.size + 1 := by simp
        have hgw : g < wr.heap.size + 1 := hgl
        clear hb0 hV
        go_upto_region 10 with (fail)
        obtain ⟨bm, hbm⟩ : ∃ v, wr.heap.size = v := ⟨_, rfl⟩
        generalize wr.alloc (.cells #[.int .i64 m.f.x, .int .i64 m.f.y, .int .i64 m.t.x, .int .i64 m.t.y, .int .i64 m.c] 49) = W0 at *
        rw [hbm] at HS HBM hsW hgw ⊢
        have hgW : g < W0.heap.size := by omega
        have hbW : bm < W0.heap.size := by omega
        clear hsW hgw hgl
        have HSd := Lib.hid (show W0.drew.cell? ⟨g, i * 5, none⟩ = some (.int .i64 l.f.x) ∧ W0.drew.cell? ⟨g, i * 5 + 1, none⟩ = some (.int .i64 l.f.y) ∧ W0.drew.cell? ⟨g, i * 5 + 2, none⟩ = some (.int .i64 l.t.x) ∧ W0.drew.cell? ⟨g, i * 5 + 3, none⟩ = some (.int .i64 l.t.y) ∧ W0.drew.cell? ⟨g, i * 5 + 4, none⟩ = some (.int .i64 l.c) ∧ W0.drew.cell? ⟨bm, 0, none⟩ = some (.int .i64 m.f.x) ∧ W0.drew.cell? ⟨bm, 1, none⟩ = some (.int .i64 m.f.y) ∧ W0.drew.cell? ⟨bm, 2, none⟩ = some (.int .i64 m.t.x) ∧ W0.drew.cell? ⟨bm, 3, none⟩ = some (.int .i64 m.t.y) ∧ W0.drew.cell? ⟨bm, 4, none⟩ = some (.int .i64 m.c) from HS.out)
        have HSa := Lib.hid (show (W0.alloc (.cells #[.int .i64 0, .int .i64 0, .int .i64 0, .int .i64 0, .int .i64 0] 49)).drew.cell? ⟨g, i * 5, none⟩ = some (.int .i64 l.f.x) ∧ (W0.alloc (.cells #[.int .i64 0, .int .i64 0, .int .i64 0, .int .i64 0, .int .i64 0] 49)).drew.cell? ⟨g, i * 5 + 1, none⟩ = some (.int .i64 l.f.y) ∧ (W0.alloc (.cells #[.int .i64 0, .int .i64 0, .int .i64 0, .int .i64 0, .int .i64 0] 49)).drew.cell? ⟨g, i * 5 + 2, none⟩ = some (.int .i64 l.t.x) ∧ (W0.alloc (.cells #[.int .i64 0, .int .i64 0, .int .i64 0, .int .i64 0, .int .i64 0] 49)).drew.cell? ⟨g, i * 5 + 3, none⟩ = some (.int .i64 l.t.y) ∧ (W0.alloc (.cells #[.int .i64 0, .int .i64 0, .int .i64 0, .int .i64 0, .int .i64 0] 49)).drew.cell? ⟨g, i * 5 + 4, none⟩ = some (.int .i64 l.c) ∧ (W0.alloc (.cells #[.int .i64 0, .int .i64 0, .int .i64 0, .int .i64 0, .int .i64 0] 49)).drew.cell? ⟨bm, 0, none⟩ = some (.int .i64 m.f.x) ∧ (W0.alloc (.cells #[.int .i64 0, .int .i64 0, .int .i64 0, .int .i64 0, .int .i64 0] 49)).drew.cell? ⟨bm, 1, none⟩ = some (.int .i64 m.f.y) ∧ (W0.alloc (.cells #[.int .i64 0, .int .i64 0, .int .i64 0, .int .i64 0, .int .i64 0] 49)).drew.cell? ⟨bm, 2, none⟩ = some (.int .i64 m.t.x) ∧ (W0.alloc (.cells #[.int .i64 0, .int .i64 0, .int .i64 0, .int .i64 0, .int .i64 0] 49)).drew.cell? ⟨bm, 3, none⟩ = some (.int .i64 m.t.y) ∧ (W0.alloc (.cells #[.int .i64 0, .int .i64 0, .int .i64 0, .int .i64 0, .int .i64 0] 49)).drew.cell? ⟨bm, 4, none⟩ = some (.int .i64 m.c) from keep10 (((Below.refl W0.heap.size W0).alloc (Nat.le_refl _) (.cells #[.int .i64 0, .int .i64 0, .int .i64 0, .int .i64 0, .int .i64 0] 49)).drew) HS.out)
        have CJA := Lib.hid (CJ.out ((W0.alloc (.cells #[.int .i64 0, .int .i64 0, .int .i64 0, .int .i64 0, .int .i64 0] 49)).drew))
        have CJB := Lib.hid (CJ.out W0.drew)
        have FA := Lib.hid (fun (w4 : World) (hq : Below (W0.alloc (.cells #[.int .i64 0, .int .i64 0, .int .i64 0, .int .i64 0, .int .i64 0] 49)).drew.heap.size (W0.alloc (.cells #[.int .i64 0, .int .i64 0, .int .i64 0, .int .i64 0, .int .i64 0] 49)).drew w4) => show (w4.cell? ⟨g, i * 5, none⟩ = some (.int .i64 l.f.x) ∧ w4.cell? ⟨g, i * 5 + 1, none⟩ = some (.int .i64 l.f.y) ∧ w4.cell? ⟨g, i * 5 + 2, none⟩ = some (.int .i64 l.t.x) ∧ w4.cell? ⟨g, i * 5 + 3, none⟩ = some (.int .i64 l.t.y) ∧ w4.cell? ⟨g, i * 5 + 4, none⟩ = some (.int .i64 l.c) ∧ w4.cell? ⟨bm, 0, none⟩ = some (.int .i64 m.f.x) ∧ w4.cell? ⟨bm, 1, none⟩ = some (.int .i64 m.f.y) ∧ w4.cell? ⟨bm, 2, none⟩ = some (.int .i64 m.t.x) ∧ w4.cell? ⟨bm, 3, none⟩ = some (.int .i64 m.t.y) ∧ w4.cell? ⟨bm, 4, none⟩ = some (.int .i64 m.c)) ∧ Blk w4 W0.heap.size #[.int .i64 0, .int .i64 0, .int .i64 0, .int .i64 0, .int .i64 0] 49 ∧ Below W0.heap.size W0 w4 from ⟨keep10 hq HSa.out, ((Blk.new W0 #[.int .i64 0, .int .i64 0, .int .i64 0, .int .i64 0, .int .i64 0] 49).drew).below hq (by simp), ((Below.refl W0.heap.size W0).alloc (Nat.le_refl _) (.cells #[.int .i64 0, .int .i64 0, .int .i64 0, .int .i64 0, .int .i64 0] 49)).drew.trans (hq.mono (by simp))⟩)
        have FB := Lib.hid (fun (w4 : World) (hq : Below W0.drew.heap.size W0.drew w4) => show (w4.cell? ⟨g, i * 5, none⟩ = some (.int .i64 l.f.x) ∧ w4.cell? ⟨g, i * 5 + 1, none⟩ = some (.int .i64 l.f.y) ∧ w4.cell? ⟨g, i * 5 + 2, none⟩ = some (.int .i64 l.t.x) ∧ w4.cell? ⟨g, i * 5 + 3, none⟩ = some (.int .i64 l.t.y) ∧ w4.cell? ⟨g, i * 5 + 4, none⟩ = some (.int .i64 l.c) ∧ w4.cell? ⟨bm, 0, none⟩ = some (.int .i64 m.f.x) ∧ w4.cell? ⟨bm, 1, none⟩ = some (.int .i64 m.f.y) ∧ w4.cell? ⟨bm, 2, none⟩ = some (.int .i64 m.t.x) ∧ w4.cell? ⟨bm, 3, none⟩ = some (.int .i64 m.t.y) ∧ w4.cell? ⟨bm, 4, none⟩ = some (.int .i64 m.c)) ∧ W0.heap.size ≤ w4.heap.size ∧ Below W0.heap.size W0 w4 from ⟨keep10 hq HSd.out, hq.size, (Below.refl W0.heap.size W0).drew.trans hq⟩)
        clear CJ
        go_cut [9, 10] from 33 to 42 (fun v9 v10 wx => ∃ b9 : Nat, v9 = .pointer (some ⟨b9, 0, none⟩) ∧ v10 = .bool b0 ∧ W0.heap.size ≤ b9 ∧ Blk wx b9 #[.int .i64 V.f.x, .int .i64 V.f.y, .int .i64 V.t.x, .int .i64 V.t.y, .int .i64 V.c] 49 ∧ Below W0.heap.size W0 wx)
        case first =>
          go_region_held3 (fun w' => w'.cell? ⟨g, i * 5, none⟩ = some (.int .i64 l.f.x) ∧ w'.cell? ⟨g, i * 5 + 1, none⟩ = some (.int .i64 l.f.y) ∧ w'.cell? ⟨g, i * 5 + 2, none⟩ = some (.int .i64 l.t.x) ∧ w'.cell? ⟨g, i * 5 + 3, none⟩ = some (.int .i64 l.t.y) ∧ w'.cell? ⟨g, i * 5 + 4, none⟩ = some (.int .i64 l.c) ∧ w'.cell? ⟨bm, 0, none⟩ = some (.int .i64 m.f.x) ∧ w'.cell? ⟨bm, 1, none⟩ = some (.int .i64 m.f.y) ∧ w'.cell? ⟨bm, 2, none⟩ = some (.int .i64 m.t.x) ∧ w'.cell? ⟨bm, 3, none⟩ = some (.int .i64 m.t.y) ∧ w'.cell? ⟨bm, 4, none⟩ = some (.int .i64 m.c)) (first | with_reducible exact HS.out | with_reducible exact HSd.out | with_reducible exact HSa.out | with_reducible exact hS4 | with_reducible exact keep10 ((Below.refl _ _).alloc (Nat.le_refl _) _) hS4 | with_reducible exact keep10g (grown5 _ _ _ _ _ _ _) hS4 (by omega) (by omega) | with_reducible exact keep10g (grown5 _ _ _ _ _ _ _) (keep10 ((Below.refl _ _).alloc (Nat.le_refl _) _) hS4) (by omega) (by omega) | fail)
            (first
              | (go_at_call 33; (first | (with_reducible refine CJA.out.mono ?_) | fail); rintro e w4 ⟨he, hq4⟩; subst he; obtain ⟨hS4, hZ4, hW4⟩ := FA.out w4 hq4; have hn1 : g ≠ W0.heap.size := (by omega); have hn2 : bm ≠ W0.heap.size := (by omega); have gz6 : W0.heap.size < w4.heap.size := hZ4.lt; have z0 : w4.cell? ⟨W0.heap.size, 0, none⟩ = some (.int .i64 0) := (hZ4.cell 0).trans rfl; have y0 : w4.frozen? ⟨W0.heap.size, 0, none⟩ = false := hZ4.frozen 0; have z1 : w4.cell? ⟨W0.heap.size, 1, none⟩ = some (.int .i64 0) := (hZ4.cell 1).trans rfl; have y1 : w4.frozen? ⟨W0.heap.size, 1, none⟩ = false := hZ4.frozen 1; have z2 : w4.cell? ⟨W0.heap.size, 2, none⟩ = some (.int .i64 0) := (hZ4.cell 2).trans rfl; have y2 : w4.frozen? ⟨W0.heap.size, 2, none⟩ = false := hZ4.frozen 2; have z3 : w4.cell? ⟨W0.heap.size, 3, none⟩ = some (.int .i64 0) := (hZ4.cell 3).trans rfl; have y3 : w4.frozen? ⟨W0.heap.size, 3, none⟩ = false := hZ4.frozen 3; have z4 : w4.cell? ⟨W0.heap.size, 4, none⟩ = some (.int .i64 0) := (hZ4.cell 4).trans rfl; have y4 : w4.frozen? ⟨W0.heap.size, 4, none⟩ = false := hZ4.frozen 4)
              | (go_at_call 33; (first | (with_reducible refine CJB.out.mono ?_) | fail); rintro e w4 ⟨he, hq4⟩; subst he; obtain ⟨hS4, hz4, hW4⟩ := FB.out w4 hq4; have hn1 : g ≠ w4.heap.size := (by omega); have hn2 : bm ≠ w4.heap.size := (by omega)))
          all_goals
            go_wp2_with fail
            go_meet
            first
              | (have hA := hZ4; refine ⟨W0.heap.size, rfl, rfl, Nat.le_refl _, ?_, ?_⟩; (with_reducible exact blk_five hZ4); (with_reducible exact below_five hW4 (Nat.le_refl _)))
              | (have hA := hz4; refine ⟨w4.heap.size, rfl, rfl, hz4, ?_, ?_⟩; (with_reducible exact Blk.new _ _ _); (with_reducible exact hW4.alloc hz4 _))
        case rest =>
          obtain ⟨b9, rfl, rfl, hb9, hB9, hWc⟩ := hcut
          have HO3 := Lib.hid (own_below HO2.out hWc)
          have HF3 := Lib.hid (HF2.out.below hWc)
          have hbx3 : RowKit.Below w2.heap.size w2 wc := hbx2.trans (hWc.mono hbx2.size)
          have HBX3 := Lib.hid hbx3
          have HBM3 := Lib.hid (HBM.out.below hWc hbW)
          have zc : w2.heap.size ≤ wc.heap.size := hbx3.size
          have n1 := (hB9.cell 0).trans rfl
          have n2 := (hB9.cell 1).trans rfl
          have n3 := (hB9.cell 2).trans rfl
          have n4 := (hB9.cell 3).trans rfl
          have n5 := (hB9.cell 4).trans rfl
          clear hbx3 hWc hB9 HSd HSa CJA CJB FA FB HS HBM HO2 HF2 hbx2 hbx f0 f1 f2 f3 f4
          cases b0
          · have e3 := jn_no HK.out HJ.out.symm HLI.out HB0.out
            have HE3 := Lib.hid e3
            have r1 := (HBM3.out.cell 0).trans rfl
            have r2 := (HBM3.out.cell 1).trans rfl
            have r3 := (HBM3.out.cell 2).trans rfl
            have r4 := (HBM3.out.cell 3).trans rfl
            have r5 := (HBM3.out.cell 4).trans rfl
            clear e3 n1 n2 n3 n4 n5
            go_wp2_with (at_builtin; refine wpList_append_far _ rfl (.tmp 49) (.tmp 51) 32 rfl w2.heap.size 49 i0 (.agg #[.int .i64 0, .int .i64 0, .int .i64 0, .int .i64 0, .int .i64 0]) 5 40 Tryz.underlying32 hi hz0 hz1 hz2 rfl (by omega) _ _ _ rfl HO3.out _ _ _ rfl rfl rfl (by omega) (by omega) (by first | omega | (simp; omega)) ?_; intro v' w6 hown' hb6 hfar')
            go_roundw
            case rel => exact ⟨k + 1, i + 1 + 1, by omega, by go_num, by rw [HE3.out, moves_snoc]; exact hown', Lib.hid (by rw [HE3.out, List.length_append, ← HJ.out]; rfl), by omega, Lib.hid (hfar' _ _ HF3.out), HBX3.out.trans hb6⟩
            case measure => simp [intOf]; omega
          · have HE3 := Lib.hid (show jnTo (mvs s L) (k + 1) = (jnTo (mvs s L) k).set i V by rw [jn_yes HK.out HJ.out.symm HLI.out HB0.out, ← HV.out, joinV_yes HB0.out])
            obtain ⟨g', o', e', d0, d1, d2, d3, d4⟩ := (Mem.of_own HO3.out).move HLI.out
            cases e'
            simp only [Nat.zero_add] at d0 d1 d2 d3 d4
            have y0 := HO3.out.frozenAt (i * 5)
            have y1 := HO3.out.frozenAt (i * 5 + 1)
            have y2 := HO3.out.frozenAt (i * 5 + 2)
            have y3 := HO3.out.frozenAt (i * 5 + 3)
            have y4 := HO3.out.frozenAt (i * 5 + 4)
            go_wp2
            clear d0 d1 d2 d3 d4 y0 y1 y2 y3 y4 n1 n2 n3 n4 n5
            go_roundw
            case rel =>
              have s0 := (HO3.out.stored (i * 5) (.int .i64 V.f.x)).1
              have s1 := (s0.stored (i * 5 + 1) (.int .i64 V.f.y)).1
              have s2 := (s1.stored (i * 5 + 2) (.int .i64 V.t.x)).1
              have s3 := (s2.stored (i * 5 + 3) (.int .i64 V.t.y)).1
              have s4 := (s3.stored (i * 5 + 4) (.int .i64 V.c)).1
              rw [← moves_set] at s4
              exact ⟨k + 1, i + 1, by omega, by go_num, by rw [HE3.out]; exact s4, Lib.hid (by rw [HE3.out, List.length_set]; exact HJ.out), by omega, Lib.hid (((((HF3.out.set rfl).set rfl).set rfl).set rfl).set rfl), below_five2 HBX3.out hg1⟩
            case measure => simp [intOf]; omega
    · obtain rfl : k = L.length := by omega
      have hJL : (jnTo (mvs s L) L.length).length = j := HJ.out.symm
      have hj8 : j ≤ 8 := by omega
      have HMJ := Lib.hid (Mem.of_own hown)
      have HJ2 := Lib.hid hJL
      have hblk : ∀ b o, Av = some ⟨b, o, none⟩ → w2.heap.size ≤ b ∧ b < wr.heap.size := fun b o e => by subst e; exact hown.lt b rfl
      have HBLK := Lib.hid hblk
      have BS3 := Lib.hid (BS2.out.below hbx (by omega))
      have BZ3 := Lib.hid (BZ2.out.below hbx (by omega))
      have HBX := Lib.hid hbx
      have BO3 := Lib.hid (BO2.out.below hbx (by omega))
      obtain ⟨J, hJe⟩ : ∃ J, jnTo (mvs s L) L.length = J := ⟨_, rfl⟩
      have HJE := Lib.hid hJe
      rw [hJe] at HMJ HJ2
      clear hown hJL hblk hbx HF1 HJ hJe
      obtain ⟨We, hWe⟩ : ∃ x, x = wr := ⟨wr, rfl⟩
      subst hWe
      have HL0 := Lib.hid (show Lp2 w We w1.heap.size We.heap.size p s J Av 0 from ⟨.slice none 0 0, BO3.out, World.ownsRow_nil _ _ _ _, HMJ.out, by simp [Value.ownBlock], (fun b o e => by have := HBLK.out b o e; exact ⟨this.2, by omega, by simp [Value.ownBlock]⟩), BZ3.out, by simp [Value.ownBlock], by omega, by omega, Nat.le_refl _, hb2.trans (HBX.out.mono hb2.size)⟩)
      go_wp2
      go_loopw [12, 56] (fun _ i_ wr => ∃ k : Nat, k ≤ j ∧ i_ = .int .i64 k ∧ Lp2 w wr w1.heap.size We.heap.size p s J Av k) (fun _ i_ _ => j - (intOf i_).toNat)
      case atStart => exact ⟨0, by omega, rfl, HL0.out⟩
      case round =>
        obtain ⟨k, hk, rfl, rv, hB, hown, hmem, hn1, hav, hZ, hn2, hn3, hwb, hB1, hbel⟩ := hrel
        by_cases hkj : k < j
        · obtain ⟨m, hm_⟩ := some_of_lt (L := J) (k := k) (by have := HJ2.out; omega)
          obtain ⟨b5, o5, rfl, f0, f1, f2, f3, f4⟩ := hmem.move hm_
          obtain ⟨ha1, ha2, ha3⟩ := hav b5 o5 rfl
          have HTS := Lib.hid (toRw_snoc hm_)
          have bo3 : wr.cell? ⟨w1.heap.size, 3, none⟩ = some rv := (hB.cell 3).trans rfl
          have hBlt := hB.lt
          have HB := Lib.hid (hB.alloc (.cells #[.int .i64 m.f.x, .int .i64 m.f.y, .int .i64 m.t.x, .int .i64 m.t.y, .int .i64 m.c] 49))
          have HO := Lib.hid (own_below hown ((Below.refl _ _).alloc (Nat.le_refl _) (.cells #[.int .i64 m.f.x, .int .i64 m.f.y, .int .i64 m.t.x, .int .i64 m.t.y, .int .i64 m.c] 49)))
          have HME := Lib.hid hmem
          have HZ := Lib.hid hZ
          have HBE := Lib.hid hbel
          have hZlt := hZ.lt
          clear hB hown hmem hav hm_ hZ hbel
          go_wp2_with (at_builtin; refine wpList_append_keep _ rfl (.tmp 61) (.tmp 67) 26 rfl We.heap.size 46 r0 (.agg #[.int .i64 0, .int .i64 0, .int .i64 0]) 3 24 Tryz.underlying26 hr hr0 hr1 hr2 rfl (by omega) _ _ _ rfl HO.out _ _ _ (congrArg (fun g => Value.slice (some ⟨g, 0, none⟩) 1 1) (by simp)) rfl rfl (by omega) (by omega) (by first | omega | (simp; omega)) ?_; intro v' w6 hown' hb6 hkeep hsz6; obtain ⟨A6, q6, rfl⟩ := own_form hown'; have hs6 : wr.heap.size + 1 < w6.heap.size := (by simpa using hsz6); obtain ⟨kb1, kb2⟩ := hkeep (w1.heap.size) (by simp; omega) hn1; have hB6 : Blk w6 (w1.heap.size) #[.int .i64 p, .int .i64 s.x, .int .i64 s.y, rv] 28 := kb1.trans HB.out; have z6 : w6.frozen? ⟨w1.heap.size, 3, none⟩ = false := Blk.frozen hB6 3; have c6 : w6.cell? ⟨w1.heap.size, 3, none⟩ = some rv := (Blk.cell hB6 3).trans rfl; have hbl6 : w1.heap.size < w6.heap.size := Blk.lt hB6)
          go_roundw
          case rel =>
            obtain ⟨kg1, kg2⟩ := hkeep b5 (by simp; omega) ha3
            obtain ⟨kz1, kz2⟩ := hkeep (w.heap.size + 1) (by simp; omega) hn2
            refine ⟨k + 1, by omega, by go_num, .slice A6 (k + 1) q6, hB6.set 3 _, own_oth (by rw [HTS.out, rows_snoc]; exact hown') kb2, ?_, kb2, ?_, ?_, kz2, hn3, hwb, ?_, ?_⟩
            · exact mem_eq (HME.out.below ((Below.refl _ _).alloc (Nat.le_refl _) _)) (fun b o e => by cases e; exact (heap_setCell_other w6 ⟨w1.heap.size, 3, none⟩ b5 _ ha2).trans kg1)
            · intro b o e
              cases e
              exact ⟨by simp; omega, ha2, kg2⟩
            · exact ((show Blk w6 (w.heap.size + 1) _ _ from kz1.trans (HZ.out.alloc _)).other (fun e => hn3 e.symm) _)
            · simp; omega
            · exact ((HBE.out.alloc (by omega) _).trans (hb6.mono (by omega))).setCell (by show w.heap.size ≤ w1.heap.size; omega) _
          case measure => simp [intOf]; omega
        · obtain rfl : k = j := by omega
          obtain ⟨Ar, cr, rfl⟩ := own_form hown
          have hlen : (J.map toRw).length = k := by rw [List.length_map, HJ2.out]
          rw [show (J.take k).map toRw = J.map toRw by rw [List.take_of_length_le (by have := HJ2.out; omega)]] at hown
          have HLEN := Lib.hid hlen
          have bo0 : wr.cell? ⟨w1.heap.size, 0, none⟩ = some (.int .i64 p) := (hB.cell 0).trans rfl
          have bo1 : wr.cell? ⟨w1.heap.size, 1, none⟩ = some (.int .i64 s.x) := (hB.cell 1).trans rfl
          have bo2 : wr.cell? ⟨w1.heap.size, 2, none⟩ = some (.int .i64 s.y) := (hB.cell 2).trans rfl
          have bo3 : wr.cell? ⟨w1.heap.size, 3, none⟩ = some (.slice Ar k cr) := (hB.cell 3).trans rfl
          have z0 : wr.cell? ⟨w.heap.size + 1, 0, none⟩ = some (.int .i64 0) := (hZ.cell 0).trans rfl
          have z1 : wr.cell? ⟨w.heap.size + 1, 1, none⟩ = some (.int .i64 0) := (hZ.cell 1).trans rfl
          have z2 : wr.cell? ⟨w.heap.size + 1, 2, none⟩ = some (.int .i64 0) := (hZ.cell 2).trans rfl
          have z3 : wr.cell? ⟨w.heap.size + 1, 3, none⟩ = some (.slice none 0 0) := (hZ.cell 3).trans rfl
          have y0 := hZ.frozen 0
          have y1 := hZ.frozen 1
          have y2 := hZ.frozen 2
          have y3 := hZ.frozen 3
          have hbl := hB.lt
          have hzl := hZ.lt
          have HB := Lib.hid hB
          have HO := Lib.hid hown
          have HZ := Lib.hid hZ
          have HBE := Lib.hid hbel
          clear hB hown hmem hav hZ hbel hlen
          go_wp2_with fail
          have hOF : ((((wr.setCell ⟨w.heap.size + 1, 0, none⟩ (.int .i64 p)).setCell ⟨w.heap.size + 1, 1, none⟩ (.int .i64 s.x)).setCell ⟨w.heap.size + 1, 2, none⟩ (.int .i64 s.y)).setCell ⟨w.heap.size + 1, 3, none⟩ (.slice Ar k cr)).ownsRow We.heap.size 46 3 (.slice Ar k cr) k (rows (J.map toRw)) := own_oth (own_oth (own_oth (own_oth HO.out hn2) hn2) hn2) hn2
          have HZZ : Blk ((((wr.setCell ⟨w.heap.size + 1, 0, none⟩ (.int .i64 p)).setCell ⟨w.heap.size + 1, 1, none⟩ (.int .i64 s.x)).setCell ⟨w.heap.size + 1, 2, none⟩ (.int .i64 s.y)).setCell ⟨w.heap.size + 1, 3, none⟩ (.slice Ar k cr)) (w.heap.size + 1) #[.int .i64 p, .int .i64 s.x, .int .i64 s.y, .slice Ar k cr] 28 := (((HZ.out.set 0 _).set 1 _).set 2 _).set 3 _
          have hbF : Below w.heap.size w ((((wr.setCell ⟨w.heap.size + 1, 0, none⟩ (.int .i64 p)).setCell ⟨w.heap.size + 1, 1, none⟩ (.int .i64 s.x)).setCell ⟨w.heap.size + 1, 2, none⟩ (.int .i64 s.y)).setCell ⟨w.heap.size + 1, 3, none⟩ (.slice Ar k cr)) := (((HBE.out.setCell (by (try dsimp only); omega) _).setCell (by (try dsimp only); omega) _).setCell (by (try dsimp only); omega) _).setCell (by (try dsimp only); omega) _
          clear bo0 bo1 bo2 bo3 z0 z1 z2 z3 y0 y1 y2 y3
          generalize ((((wr.setCell ⟨w.heap.size + 1, 0, none⟩ (.int .i64 p)).setCell ⟨w.heap.size + 1, 1, none⟩ (.int .i64 s.x)).setCell ⟨w.heap.size + 1, 2, none⟩ (.int .i64 s.y)).setCell ⟨w.heap.size + 1, 3, none⟩ (.slice Ar k cr)) = WF at *
          have C0 : WF.cell? ⟨w.heap.size + 1, 0, none⟩ = some (.int .i64 p) := (HZZ.cell 0).trans rfl
          have C1 : WF.cell? ⟨w.heap.size + 1, 1, none⟩ = some (.int .i64 s.x) := (HZZ.cell 1).trans rfl
          have C2 : WF.cell? ⟨w.heap.size + 1, 2, none⟩ = some (.int .i64 s.y) := (HZZ.cell 2).trans rfl
          have C3 : WF.cell? ⟨w.heap.size + 1, 3, none⟩ = some (.slice Ar k cr) := (HZZ.cell 3).trans rfl
          obtain ⟨g1, g2, g3⟩ := e1.out H1.out
          refine bodyPost_ret (v := .tuple #[.agg #[.int .i64 p, .int .i64 s.x, .int .i64 s.y, .slice Ar k cr], .bool true]) (by simp [results, Tryz.results11, go_sem, C0, C1, C2, C3]) rfl ?_
          rw [g1, g2, g3, HJE.out]
          exact ⟨Ar, cr, by rw [HLEN.out], by rw [HLEN.out]; exact own_base hOF (by omega), hbF⟩


end Go.Proofs.YtdmgffcabjpihaaGreatDoor
