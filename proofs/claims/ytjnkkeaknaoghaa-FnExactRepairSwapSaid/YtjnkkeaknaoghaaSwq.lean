/-
  Contracts: a transition with two places swapped.
-/
import Derived.Test.YtjnkkeaknaoghaaSwp
import Derived.Test.YtjnkkeaknaoghaaKeep
namespace Go.Proofs.Ytjnkkeaknaoghaa
open Go.RowKit Go.Sort Go.Lib

theorem swp_set {P : List Int} {i k : Nat} {x y : Int} (hx : P[i]? = some x) (hy : P[k]? = some y) : swp P i k = (P.set i y).set k x := by
  simp [swp, List.getD_eq_getElem?_getD, hx, hy]
theorem RetTr.drew {w W : World} {F T : List Sp} {n : Int} {P : List Int} {e : Ending} (h : RetTr w F T n P e W) : RetTr w F T n P e W.drew := by
  obtain ⟨A, c, B, d, C, f, s, h1, h2, h3, h4, h5, h6, h7, h8, h9, h10⟩ := h
  exact ⟨A, c, B, d, C, f, s, h1, h2, h3, h4, h5, h6, h7, own_drew h8, h9, h10.drew⟩
theorem size_alloc2 (w : World) (o : Obj) : (w.alloc o).heap.size = w.heap.size + 1 := by simp
theorem ints_at {L : List Int} {k : Nat} {x : Int} (h : L[k]? = some x) : (ints L)[k]? = some (.int .i64 x) := by
  have e := flat_get (fun n : Int => [Value.int .i64 n]) 1 (fun _ => rfl) L k x h 0 (by omega)
  simpa [ints] using e
theorem keepS {w w' : World} {row : Nat} {p : Addr} {v : Value} (hg : w.grownBy w' (some row)) (h : w.cell? p = some v) (hne : p.block ≠ row) : w'.cell? p = some v := hg.cell h (fun e => hne (Option.some.inj e))

set_option maxRecDepth 100000 in
set_option maxHeartbeats 6400000 in
theorem asSwap_any (A : Option Addr) (c : Nat) (F : List Sp) (B : Option Addr) (d : Nat) (T : List Sp) (n : Int) (C : Option Addr) (f : Nat) (P : List Int) (i k : Nat) (w : World) (hf : Mem w A (spots F)) (ht : Mem w B (spots T)) (hp : Mem w C (ints P)) (lf : F.length ≤ 1048576) (lt : T.length ≤ 1048576) (lp : P.length ≤ 1048576) (h0 : 0 < F.length) (h1 : 0 < T.length) (hik : i < k) (hk : k < P.length) : Calls Try.prog 113 #[.agg #[.slice A F.length c, .slice B T.length d, .int .i64 n, .slice C P.length f], .int .i64 i, .int .i64 k] w (RetTr w F T n (swp P i k)) := by
  obtain ⟨x, hx⟩ := some_of_lt (L := P) (k := i) (by omega)
  obtain ⟨y, hy⟩ := some_of_lt (L := P) (k := k) hk
  have HSW := Lib.hid (swp_set hx hy)
  go_enter Try.func113, Try.ntmps113
  go_wp2_with fail
  refine (asWith_any A c F B d T n C f P _ (hf.below (by (repeat (first | exact Below.refl _ _ | assumption | (refine Below.alloc ?_ (by first | omega | (simp; done) | (simp; omega)) _) | (refine Below.setCell ?_ (by first | omega | (simp; done) | (simp; omega)) _) | (refine Below.drew ?_) | (refine Below.drewN ?_ _) | (refine Below.next (by assumption) ?_ (by first | omega | (simp; done) | (simp; omega))))))) (ht.below (by (repeat (first | exact Below.refl _ _ | assumption | (refine Below.alloc ?_ (by first | omega | (simp; done) | (simp; omega)) _) | (refine Below.setCell ?_ (by first | omega | (simp; done) | (simp; omega)) _) | (refine Below.drew ?_) | (refine Below.drewN ?_ _) | (refine Below.next (by assumption) ?_ (by first | omega | (simp; done) | (simp; omega))))))) (hp.below (by (repeat (first | exact Below.refl _ _ | assumption | (refine Below.alloc ?_ (by first | omega | (simp; done) | (simp; omega)) _) | (refine Below.setCell ?_ (by first | omega | (simp; done) | (simp; omega)) _) | (refine Below.drew ?_) | (refine Below.drewN ?_ _) | (refine Below.next (by assumption) ?_ (by first | omega | (simp; done) | (simp; omega))))))) lf lt lp h0 h1 (by omega)).mono ?_
  rintro e w1 ⟨A1, c1, B1, d1, C1, f1, s, rfl, hm1, hm2, hc1, hc2, ha1, ha2, ho, hs, hq⟩
  have hz := hq.size
  simp at hz hs
  obtain ⟨g, rfl, hg1, hg2⟩ := own_addr ho (by omega)
  obtain ⟨b3, o3, rfl, e3⟩ := hp.int hx
  obtain ⟨b4, o4, h4, e4⟩ := hp.int hy
  cases h4
  have l3 : b3 < w.heap.size := World.block_lt_of_cell? w _ e3
  have hbw : Below w.heap.size w w1 := by (repeat (first | exact Below.refl _ _ | assumption | (refine Below.alloc ?_ (by first | omega | (simp; done) | (simp; omega)) _) | (refine Below.setCell ?_ (by first | omega | (simp; done) | (simp; omega)) _) | (refine Below.drew ?_) | (refine Below.drewN ?_ _) | (refine Below.next (by assumption) ?_ (by first | omega | (simp; done) | (simp; omega)))))
  have HW := Lib.hid hq

  have BT0 : Blk ((w.alloc (.cells #[.slice A F.length c, .slice B T.length d, .int .i64 n, .slice (some ⟨b3, o3, none⟩) P.length f] 31)).alloc (.cells #[.slice none 0 0, .slice none 0 0, .int .i64 0, .slice none 0 0] 31)) w.heap.size #[.slice A F.length c, .slice B T.length d, .int .i64 n, .slice (some ⟨b3, o3, none⟩) P.length f] 31 := (Blk.new w _ _).alloc _
  have BZ0 : Blk ((w.alloc (.cells #[.slice A F.length c, .slice B T.length d, .int .i64 n, .slice (some ⟨b3, o3, none⟩) P.length f] 31)).alloc (.cells #[.slice none 0 0, .slice none 0 0, .int .i64 0, .slice none 0 0] 31)) (w.heap.size + 1) #[.slice none 0 0, .slice none 0 0, .int .i64 0, .slice none 0 0] 31 := by have h := Blk.new (w.alloc (.cells #[.slice A F.length c, .slice B T.length d, .int .i64 n, .slice (some ⟨b3, o3, none⟩) P.length f] 31)) #[.slice none 0 0, .slice none 0 0, .int .i64 0, .slice none 0 0] 31; rwa [size_alloc2] at h
  have BT2 : Blk (w1.alloc (.cells #[.slice A1 F.length c1, .slice B1 T.length d1, .int .i64 n, .slice (some ⟨g, 0, none⟩) P.length f1] 31)) w.heap.size #[.slice A F.length c, .slice B T.length d, .int .i64 n, .slice (some ⟨b3, o3, none⟩) P.length f] 31 := (BT0.below hq (by simp; omega)).alloc _
  have BZ2 : Blk (w1.alloc (.cells #[.slice A1 F.length c1, .slice B1 T.length d1, .int .i64 n, .slice (some ⟨g, 0, none⟩) P.length f1] 31)) (w.heap.size + 1) #[.slice none 0 0, .slice none 0 0, .int .i64 0, .slice none 0 0] 31 := (BZ0.below hq (by simp)).alloc _
  have BN2 : Blk (w1.alloc (.cells #[.slice A1 F.length c1, .slice B1 T.length d1, .int .i64 n, .slice (some ⟨g, 0, none⟩) P.length f1] 31)) w1.heap.size #[.slice A1 F.length c1, .slice B1 T.length d1, .int .i64 n, .slice (some ⟨g, 0, none⟩) P.length f1] 31 := Blk.new w1 _ _
  have e3a : (w1.alloc (.cells #[.slice A1 F.length c1, .slice B1 T.length d1, .int .i64 n, .slice (some ⟨g, 0, none⟩) P.length f1] 31)).cell? ⟨b3, o3 + i, none⟩ = some (.int .i64 x) := keep1 ((Below.refl _ _).alloc (Nat.le_refl _) _) (keep1 hbw e3)
  have e4a : (w1.alloc (.cells #[.slice A1 F.length c1, .slice B1 T.length d1, .int .i64 n, .slice (some ⟨g, 0, none⟩) P.length f1] 31)).cell? ⟨b3, o3 + k, none⟩ = some (.int .i64 y) := keep1 ((Below.refl _ _).alloc (Nat.le_refl _) _) (keep1 hbw e4)
  have ho2 := own_below ho ((Below.refl _ _).alloc (Nat.le_refl _) (.cells #[.slice A1 F.length c1, .slice B1 T.length d1, .int .i64 n, .slice (some ⟨g, 0, none⟩) P.length f1] 31))
  have hm1b := hm1.below ((Below.refl _ _).alloc (Nat.le_refl _) (.cells #[.slice A1 F.length c1, .slice B1 T.length d1, .int .i64 n, .slice (some ⟨g, 0, none⟩) P.length f1] 31))
  have hm2b := hm2.below ((Below.refl _ _).alloc (Nat.le_refl _) (.cells #[.slice A1 F.length c1, .slice B1 T.length d1, .int .i64 n, .slice (some ⟨g, 0, none⟩) P.length f1] 31))
  have hbw2 : Below w.heap.size w (w1.alloc (.cells #[.slice A1 F.length c1, .slice B1 T.length d1, .int .i64 n, .slice (some ⟨g, 0, none⟩) P.length f1] 31)) := hbw.alloc (by omega) _
  have hsz2 : (w1.alloc (.cells #[.slice A1 F.length c1, .slice B1 T.length d1, .int .i64 n, .slice (some ⟨g, 0, none⟩) P.length f1] 31)).heap.size = w1.heap.size + 1 := size_alloc2 _ _
  clear hq HW hbw e3 e4 BT0 BZ0 hm1 hm2 ho
  go_wp2_with fail
  generalize w1.alloc (.cells #[.slice A1 F.length c1, .slice B1 T.length d1, .int .i64 n, .slice (some ⟨g, 0, none⟩) P.length f1] 31) = W2 at *
  have xi : (ints P)[i]? = some (.int .i64 x) := ints_at hx
  have xk : (ints P)[k]? = some (.int .i64 y) := ints_at hy
  have hcI := (ho2.cellAt i (by omega)).trans xi
  have hcK := (ho2.cellAt k (by omega)).trans xk
  have hfI := ho2.frozenAt i
  have hfK := ho2.frozenAt k
  have t3 : W2.cell? ⟨w.heap.size, 3, none⟩ = some (.slice (some ⟨b3, o3, none⟩) P.length f) := (BT2.cell 3).trans rfl
  have n3 : W2.cell? ⟨w1.heap.size, 3, none⟩ = some (.slice (some ⟨g, 0, none⟩) P.length f1) := (BN2.cell 3).trans rfl
  have i0 : (0 : Int) ≤ (i : Int) := by omega
  have i1 : (i : Int) < (P.length : Int) := by omega
  have k0 : (0 : Int) ≤ (k : Int) := by omega
  have k1 : (k : Int) < (P.length : Int) := by omega
  have ne1 : ¬ w.heap.size = g := by omega
  have ne2 : ¬ w1.heap.size = g := by omega
  have ne3 : ¬ b3 = g := by omega
  have ne4 : ¬ g = w.heap.size := by omega
  have ne5 : ¬ g = w1.heap.size := by omega
  have ne6 : ¬ g = b3 := by omega
  have ne7 : ¬ i = k := by omega
  have HX := Lib.hid hx
  have HY := Lib.hid hy
  have BT2 := Lib.hid BT2
  have BZ2 := Lib.hid BZ2
  have BN2 := Lib.hid BN2
  have HO2 := Lib.hid ho2
  clear hx hy xi xk ho2
  have n0 : W2.cell? ⟨w1.heap.size, 0, none⟩ = some (.slice A1 F.length c1) := (BN2.out.cell 0).trans rfl
  have n1 : W2.cell? ⟨w1.heap.size, 1, none⟩ = some (.slice B1 T.length d1) := (BN2.out.cell 1).trans rfl
  have n2 : W2.cell? ⟨w1.heap.size, 2, none⟩ = some (.int .i64 n) := (BN2.out.cell 2).trans rfl
  have z0 : W2.cell? ⟨w.heap.size + 1, 0, none⟩ = some (.slice none 0 0) := (BZ2.out.cell 0).trans rfl
  have z1 : W2.cell? ⟨w.heap.size + 1, 1, none⟩ = some (.slice none 0 0) := (BZ2.out.cell 1).trans rfl
  have z2 : W2.cell? ⟨w.heap.size + 1, 2, none⟩ = some (.int .i64 0) := (BZ2.out.cell 2).trans rfl
  have z3 : W2.cell? ⟨w.heap.size + 1, 3, none⟩ = some (.slice none 0 0) := (BZ2.out.cell 3).trans rfl
  have y0 : W2.frozen? ⟨w.heap.size + 1, 0, none⟩ = false := BZ2.out.frozen 0
  have y1 : W2.frozen? ⟨w.heap.size + 1, 1, none⟩ = false := BZ2.out.frozen 1
  have y2 : W2.frozen? ⟨w.heap.size + 1, 2, none⟩ = false := BZ2.out.frozen 2
  have y3 : W2.frozen? ⟨w.heap.size + 1, 3, none⟩ = false := BZ2.out.frozen 3
  have ne8 : ¬ w.heap.size + 1 = g := by omega
  have ne9 : ¬ g = w.heap.size + 1 := by omega
  have nea : ¬ w1.heap.size = w.heap.size + 1 := by omega
  have neb : ¬ w.heap.size + 1 = w1.heap.size := by omega
  have nec : ¬ k = i := by omega
  go_region
  go_wp2
  go_region
  go_wp2
  refine bodyPost_ret (v := .agg #[.slice A1 F.length c1, .slice B1 T.length d1, .int .i64 n, .slice (some ⟨g, 0, none⟩) P.length f1]) (by simp [results, Try.results113, go_sem, z0, z1, z2, z3]) rfl ?_
  refine RetTr.drew (RetTr.drew ?_)
  have st1 := (HO2.out.stored i (.int .i64 y)).1
  have st2 := (st1.stored k (.int .i64 x)).1
  rw [← ints_set, ← ints_set, ← HSW.out] at st2
  have gX := grown_trans (set_grown W2 g i (.int .i64 y)) (set_grown _ g k (.int .i64 x))
  have mA : Mem ((W2.setCell ⟨g, i, none⟩ (.int .i64 y)).setCell ⟨g, k, none⟩ (.int .i64 x)) A1 (spots F) := mem_grown hm1b gX (fun b o h => by have := ha1 b o h; simp; omega)
  have mB : Mem ((W2.setCell ⟨g, i, none⟩ (.int .i64 y)).setCell ⟨g, k, none⟩ (.int .i64 x)) B1 (spots T) := mem_grown hm2b gX (fun b o h => by have := ha2 b o h; simp; omega)
  have oX : ((W2.setCell ⟨g, i, none⟩ (.int .i64 y)).setCell ⟨g, k, none⟩ (.int .i64 x)).ownsRow s 3 1 (.slice (some ⟨g, 0, none⟩) P.length f1) P.length (ints (swp P i k)) := st2
  have bX : Below w.heap.size w ((W2.setCell ⟨g, i, none⟩ (.int .i64 y)).setCell ⟨g, k, none⟩ (.int .i64 x)) := (hbw2.setCell (by (try dsimp only); omega) _).setCell (by (try dsimp only); omega) _
  have sX : ((W2.setCell ⟨g, i, none⟩ (.int .i64 y)).setCell ⟨g, k, none⟩ (.int .i64 x)).heap.size = w1.heap.size + 1 := by simpa using hsz2
  generalize ((W2.setCell ⟨g, i, none⟩ (.int .i64 y)).setCell ⟨g, k, none⟩ (.int .i64 x)) = X at *
  have hg := grown_trans (grown_trans (grown_trans (set_grown X (w.heap.size + 1) 0 (.slice A1 F.length c1)) (set_grown _ (w.heap.size + 1) 1 (.slice B1 T.length d1))) (set_grown _ (w.heap.size + 1) 2 (.int .i64 n))) (set_grown _ (w.heap.size + 1) 3 (.slice (some ⟨g, 0, none⟩) P.length f1))
  rw [← swp_len P i k] at oX hg ⊢
  refine ⟨A1, c1, B1, d1, _, f1, s, rfl, mem_grown mA hg (fun b o h => by have := ha1 b o h; (try simp at this); simp; omega), mem_grown mB hg (fun b o h => by have := ha2 b o h; (try simp at this); simp; omega), hc1, hc2, fun b o h => by have := ha1 b o h; (try simp at this); omega, fun b o h => by have := ha2 b o h; (try simp at this); omega, own_kept oX hg (fun k hk j hj => by have := (oX.lt j hj).1; simp at hk; omega), by omega, below_grown bX hg (by omega) (fun k hk => by simp at hk; omega)⟩

set_option maxRecDepth 100000 in
set_option maxHeartbeats 6400000 in
theorem swapPlaces_any (A : Option Addr) (c : Nat) (F : List Sp) (B : Option Addr) (d : Nat) (T : List Sp) (n : Int) (C : Option Addr) (f : Nat) (P : List Int) (i k : Nat) (w : World) (hf : Mem w A (spots F)) (ht : Mem w B (spots T)) (hp : Mem w C (ints P)) (lf : F.length ≤ 1048576) (lt : T.length ≤ 1048576) (lp : P.length ≤ 1048576) (h0 : 0 < F.length) (h1 : 0 < T.length) (hik : i < k) (hk : k < P.length) : Calls Try.prog 116 #[.agg #[.slice A F.length c, .slice B T.length d, .int .i64 n, .slice C P.length f], .int .i64 i, .int .i64 k] w (RetTr w F T n (swp P i k)) := by
  obtain ⟨x, hx⟩ := some_of_lt (L := P) (k := i) (by omega)
  obtain ⟨y, hy⟩ := some_of_lt (L := P) (k := k) hk
  have HSW := Lib.hid (swp_set hx hy)
  go_enter Try.func116, Try.ntmps116
  go_wp2_with fail
  refine (newTransition_any A c F B d T n C f P _ (hf.below (by (repeat (first | exact Below.refl _ _ | assumption | (refine Below.alloc ?_ (by first | omega | (simp; done) | (simp; omega)) _) | (refine Below.setCell ?_ (by first | omega | (simp; done) | (simp; omega)) _) | (refine Below.drew ?_) | (refine Below.drewN ?_ _) | (refine Below.next (by assumption) ?_ (by first | omega | (simp; done) | (simp; omega))))))) (ht.below (by (repeat (first | exact Below.refl _ _ | assumption | (refine Below.alloc ?_ (by first | omega | (simp; done) | (simp; omega)) _) | (refine Below.setCell ?_ (by first | omega | (simp; done) | (simp; omega)) _) | (refine Below.drew ?_) | (refine Below.drewN ?_ _) | (refine Below.next (by assumption) ?_ (by first | omega | (simp; done) | (simp; omega))))))) (hp.below (by (repeat (first | exact Below.refl _ _ | assumption | (refine Below.alloc ?_ (by first | omega | (simp; done) | (simp; omega)) _) | (refine Below.setCell ?_ (by first | omega | (simp; done) | (simp; omega)) _) | (refine Below.drew ?_) | (refine Below.drewN ?_ _) | (refine Below.next (by assumption) ?_ (by first | omega | (simp; done) | (simp; omega))))))) lf lt lp h0 h1 (by omega)).mono ?_
  rintro e w1 ⟨A1, c1, B1, d1, C1, f1, s, rfl, hm1, hm2, hc1, hc2, ha1, ha2, ho, hs, hq⟩
  have hz := hq.size
  simp at hz hs
  obtain ⟨g, rfl, hg1, hg2⟩ := own_addr ho (by omega)
  obtain ⟨b3, o3, rfl, e3⟩ := hp.int hx
  obtain ⟨b4, o4, h4, e4⟩ := hp.int hy
  cases h4
  have l3 : b3 < w.heap.size := World.block_lt_of_cell? w _ e3
  have hbw : Below w.heap.size w w1 := by (repeat (first | exact Below.refl _ _ | assumption | (refine Below.alloc ?_ (by first | omega | (simp; done) | (simp; omega)) _) | (refine Below.setCell ?_ (by first | omega | (simp; done) | (simp; omega)) _) | (refine Below.drew ?_) | (refine Below.drewN ?_ _) | (refine Below.next (by assumption) ?_ (by first | omega | (simp; done) | (simp; omega)))))
  have HW := Lib.hid hq

  have BT0 : Blk ((w.alloc (.cells #[.slice A F.length c, .slice B T.length d, .int .i64 n, .slice (some ⟨b3, o3, none⟩) P.length f] 31)).alloc (.cells #[.slice none 0 0, .slice none 0 0, .int .i64 0, .slice none 0 0] 31)) w.heap.size #[.slice A F.length c, .slice B T.length d, .int .i64 n, .slice (some ⟨b3, o3, none⟩) P.length f] 31 := (Blk.new w _ _).alloc _
  have BZ0 : Blk ((w.alloc (.cells #[.slice A F.length c, .slice B T.length d, .int .i64 n, .slice (some ⟨b3, o3, none⟩) P.length f] 31)).alloc (.cells #[.slice none 0 0, .slice none 0 0, .int .i64 0, .slice none 0 0] 31)) (w.heap.size + 1) #[.slice none 0 0, .slice none 0 0, .int .i64 0, .slice none 0 0] 31 := by have h := Blk.new (w.alloc (.cells #[.slice A F.length c, .slice B T.length d, .int .i64 n, .slice (some ⟨b3, o3, none⟩) P.length f] 31)) #[.slice none 0 0, .slice none 0 0, .int .i64 0, .slice none 0 0] 31; rwa [size_alloc2] at h
  have BT2 : Blk (w1.alloc (.cells #[.slice A1 F.length c1, .slice B1 T.length d1, .int .i64 n, .slice (some ⟨g, 0, none⟩) P.length f1] 31)) w.heap.size #[.slice A F.length c, .slice B T.length d, .int .i64 n, .slice (some ⟨b3, o3, none⟩) P.length f] 31 := (BT0.below hq (by simp; omega)).alloc _
  have BZ2 : Blk (w1.alloc (.cells #[.slice A1 F.length c1, .slice B1 T.length d1, .int .i64 n, .slice (some ⟨g, 0, none⟩) P.length f1] 31)) (w.heap.size + 1) #[.slice none 0 0, .slice none 0 0, .int .i64 0, .slice none 0 0] 31 := (BZ0.below hq (by simp)).alloc _
  have BN2 : Blk (w1.alloc (.cells #[.slice A1 F.length c1, .slice B1 T.length d1, .int .i64 n, .slice (some ⟨g, 0, none⟩) P.length f1] 31)) w1.heap.size #[.slice A1 F.length c1, .slice B1 T.length d1, .int .i64 n, .slice (some ⟨g, 0, none⟩) P.length f1] 31 := Blk.new w1 _ _
  have e3a : (w1.alloc (.cells #[.slice A1 F.length c1, .slice B1 T.length d1, .int .i64 n, .slice (some ⟨g, 0, none⟩) P.length f1] 31)).cell? ⟨b3, o3 + i, none⟩ = some (.int .i64 x) := keep1 ((Below.refl _ _).alloc (Nat.le_refl _) _) (keep1 hbw e3)
  have e4a : (w1.alloc (.cells #[.slice A1 F.length c1, .slice B1 T.length d1, .int .i64 n, .slice (some ⟨g, 0, none⟩) P.length f1] 31)).cell? ⟨b3, o3 + k, none⟩ = some (.int .i64 y) := keep1 ((Below.refl _ _).alloc (Nat.le_refl _) _) (keep1 hbw e4)
  have ho2 := own_below ho ((Below.refl _ _).alloc (Nat.le_refl _) (.cells #[.slice A1 F.length c1, .slice B1 T.length d1, .int .i64 n, .slice (some ⟨g, 0, none⟩) P.length f1] 31))
  have hm1b := hm1.below ((Below.refl _ _).alloc (Nat.le_refl _) (.cells #[.slice A1 F.length c1, .slice B1 T.length d1, .int .i64 n, .slice (some ⟨g, 0, none⟩) P.length f1] 31))
  have hm2b := hm2.below ((Below.refl _ _).alloc (Nat.le_refl _) (.cells #[.slice A1 F.length c1, .slice B1 T.length d1, .int .i64 n, .slice (some ⟨g, 0, none⟩) P.length f1] 31))
  have hbw2 : Below w.heap.size w (w1.alloc (.cells #[.slice A1 F.length c1, .slice B1 T.length d1, .int .i64 n, .slice (some ⟨g, 0, none⟩) P.length f1] 31)) := hbw.alloc (by omega) _
  have hsz2 : (w1.alloc (.cells #[.slice A1 F.length c1, .slice B1 T.length d1, .int .i64 n, .slice (some ⟨g, 0, none⟩) P.length f1] 31)).heap.size = w1.heap.size + 1 := size_alloc2 _ _
  clear hq HW hbw e3 e4 BT0 BZ0 hm1 hm2 ho
  go_wp2_with fail
  generalize w1.alloc (.cells #[.slice A1 F.length c1, .slice B1 T.length d1, .int .i64 n, .slice (some ⟨g, 0, none⟩) P.length f1] 31) = W2 at *
  have xi : (ints P)[i]? = some (.int .i64 x) := ints_at hx
  have xk : (ints P)[k]? = some (.int .i64 y) := ints_at hy
  have hcI := (ho2.cellAt i (by omega)).trans xi
  have hcK := (ho2.cellAt k (by omega)).trans xk
  have hfI := ho2.frozenAt i
  have hfK := ho2.frozenAt k
  have t3 : W2.cell? ⟨w.heap.size, 3, none⟩ = some (.slice (some ⟨b3, o3, none⟩) P.length f) := (BT2.cell 3).trans rfl
  have n3 : W2.cell? ⟨w1.heap.size, 3, none⟩ = some (.slice (some ⟨g, 0, none⟩) P.length f1) := (BN2.cell 3).trans rfl
  have i0 : (0 : Int) ≤ (i : Int) := by omega
  have i1 : (i : Int) < (P.length : Int) := by omega
  have k0 : (0 : Int) ≤ (k : Int) := by omega
  have k1 : (k : Int) < (P.length : Int) := by omega
  have ne1 : ¬ w.heap.size = g := by omega
  have ne2 : ¬ w1.heap.size = g := by omega
  have ne3 : ¬ b3 = g := by omega
  have ne4 : ¬ g = w.heap.size := by omega
  have ne5 : ¬ g = w1.heap.size := by omega
  have ne6 : ¬ g = b3 := by omega
  have ne7 : ¬ i = k := by omega
  have HX := Lib.hid hx
  have HY := Lib.hid hy
  have BT2 := Lib.hid BT2
  have BZ2 := Lib.hid BZ2
  have BN2 := Lib.hid BN2
  have HO2 := Lib.hid ho2
  clear hx hy xi xk ho2
  have n0 : W2.cell? ⟨w1.heap.size, 0, none⟩ = some (.slice A1 F.length c1) := (BN2.out.cell 0).trans rfl
  have n1 : W2.cell? ⟨w1.heap.size, 1, none⟩ = some (.slice B1 T.length d1) := (BN2.out.cell 1).trans rfl
  have n2 : W2.cell? ⟨w1.heap.size, 2, none⟩ = some (.int .i64 n) := (BN2.out.cell 2).trans rfl
  have z0 : W2.cell? ⟨w.heap.size + 1, 0, none⟩ = some (.slice none 0 0) := (BZ2.out.cell 0).trans rfl
  have z1 : W2.cell? ⟨w.heap.size + 1, 1, none⟩ = some (.slice none 0 0) := (BZ2.out.cell 1).trans rfl
  have z2 : W2.cell? ⟨w.heap.size + 1, 2, none⟩ = some (.int .i64 0) := (BZ2.out.cell 2).trans rfl
  have z3 : W2.cell? ⟨w.heap.size + 1, 3, none⟩ = some (.slice none 0 0) := (BZ2.out.cell 3).trans rfl
  have y0 : W2.frozen? ⟨w.heap.size + 1, 0, none⟩ = false := BZ2.out.frozen 0
  have y1 : W2.frozen? ⟨w.heap.size + 1, 1, none⟩ = false := BZ2.out.frozen 1
  have y2 : W2.frozen? ⟨w.heap.size + 1, 2, none⟩ = false := BZ2.out.frozen 2
  have y3 : W2.frozen? ⟨w.heap.size + 1, 3, none⟩ = false := BZ2.out.frozen 3
  have ne8 : ¬ w.heap.size + 1 = g := by omega
  have ne9 : ¬ g = w.heap.size + 1 := by omega
  have nea : ¬ w1.heap.size = w.heap.size + 1 := by omega
  have neb : ¬ w.heap.size + 1 = w1.heap.size := by omega
  have nec : ¬ k = i := by omega
  go_region

  go_wp2
  refine bodyPost_ret (v := .agg #[.slice A1 F.length c1, .slice B1 T.length d1, .int .i64 n, .slice (some ⟨g, 0, none⟩) P.length f1]) (by simp [results, Try.results116, go_sem, z0, z1, z2, z3]) rfl ?_
  refine RetTr.drew ?_
  have st1 := (HO2.out.stored i (.int .i64 y)).1
  have st2 := (st1.stored k (.int .i64 x)).1
  rw [← ints_set, ← ints_set, ← HSW.out] at st2
  have gX := grown_trans (set_grown W2 g i (.int .i64 y)) (set_grown _ g k (.int .i64 x))
  have mA : Mem ((W2.setCell ⟨g, i, none⟩ (.int .i64 y)).setCell ⟨g, k, none⟩ (.int .i64 x)) A1 (spots F) := mem_grown hm1b gX (fun b o h => by have := ha1 b o h; simp; omega)
  have mB : Mem ((W2.setCell ⟨g, i, none⟩ (.int .i64 y)).setCell ⟨g, k, none⟩ (.int .i64 x)) B1 (spots T) := mem_grown hm2b gX (fun b o h => by have := ha2 b o h; simp; omega)
  have oX : ((W2.setCell ⟨g, i, none⟩ (.int .i64 y)).setCell ⟨g, k, none⟩ (.int .i64 x)).ownsRow s 3 1 (.slice (some ⟨g, 0, none⟩) P.length f1) P.length (ints (swp P i k)) := st2
  have bX : Below w.heap.size w ((W2.setCell ⟨g, i, none⟩ (.int .i64 y)).setCell ⟨g, k, none⟩ (.int .i64 x)) := (hbw2.setCell (by (try dsimp only); omega) _).setCell (by (try dsimp only); omega) _
  have sX : ((W2.setCell ⟨g, i, none⟩ (.int .i64 y)).setCell ⟨g, k, none⟩ (.int .i64 x)).heap.size = w1.heap.size + 1 := by simpa using hsz2
  generalize ((W2.setCell ⟨g, i, none⟩ (.int .i64 y)).setCell ⟨g, k, none⟩ (.int .i64 x)) = X at *
  have hg := grown_trans (grown_trans (grown_trans (set_grown X (w.heap.size + 1) 0 (.slice A1 F.length c1)) (set_grown _ (w.heap.size + 1) 1 (.slice B1 T.length d1))) (set_grown _ (w.heap.size + 1) 2 (.int .i64 n))) (set_grown _ (w.heap.size + 1) 3 (.slice (some ⟨g, 0, none⟩) P.length f1))
  rw [← swp_len P i k] at oX hg ⊢
  refine ⟨A1, c1, B1, d1, _, f1, s, rfl, mem_grown mA hg (fun b o h => by have := ha1 b o h; (try simp at this); simp; omega), mem_grown mB hg (fun b o h => by have := ha2 b o h; (try simp at this); simp; omega), hc1, hc2, fun b o h => by have := ha1 b o h; (try simp at this); omega, fun b o h => by have := ha2 b o h; (try simp at this); omega, own_kept oX hg (fun k hk j hj => by have := (oX.lt j hj).1; simp at hk; omega), by omega, below_grown bX hg (by omega) (fun k hk => by simp at hk; omega)⟩

end Go.Proofs.Ytjnkkeaknaoghaa
