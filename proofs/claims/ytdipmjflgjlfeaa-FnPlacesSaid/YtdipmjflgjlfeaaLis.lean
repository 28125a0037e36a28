/-
  Contracts: the spread of what is heard; HeardSpread, WorstListener, the program's and the reference's.
-/
import Derived.Test.YtdipmjflgjlfeaaHeard
import Derived.Deep.QuietTactic
import Derived.BigQuiet
namespace Go.Proofs.Ytdipmjflgjlfeaa
open Go.RowKit Go.Sort

def hspr (L : List Sp) (O : List Int) (a : Sp) : Int := highOf (heard L O a) - lowOf (heard L O a)
theorem heard_bd {L : List Sp} {O : List Int} {a : Sp} (hL : L.all isSp = true) (hO : ∀ o ∈ O, -10000 ≤ o ∧ o ≤ 10000) (ha : isSp a = true) : ∀ x ∈ heard L O a, -10000 ≤ x ∧ x ≤ 10302 := fun x hx => by
  unfold heard at hx
  rw [← List.map_uncurry_zip_eq_zipWith] at hx
  obtain ⟨⟨t, o⟩, hp, rfl⟩ := List.mem_map.1 hx
  have h1 := times_all hL ha t (List.of_mem_zip hp).1
  have h2 := hO o (List.of_mem_zip hp).2
  show -10000 ≤ t + o ∧ t + o ≤ 10302
  omega
theorem hspr_bd {L : List Sp} {O : List Int} {a : Sp} (h0 : 0 < L.length) (hL : L.all isSp = true) (hO : ∀ o ∈ O, -10000 ≤ o ∧ o ≤ 10000) (hLO : L.length = O.length) (ha : isSp a = true) :
    0 ≤ hspr L O a ∧ hspr L O a ≤ 20302 ∧ -10000 ≤ lowOf (heard L O a) ∧ lowOf (heard L O a) ≤ 10302 ∧ -10000 ≤ highOf (heard L O a) ∧ highOf (heard L O a) ≤ 10302 := by
  have hl := heard_len a hLO
  have h1 := low_bd (L := heard L O a) (by omega) (heard_bd hL hO ha)
  have h2 := high_bd (L := heard L O a) (by omega) (heard_bd hL hO ha)
  have h3 := low_le_high (L := heard L O a) (by omega)
  unfold hspr
  omega

set_option maxRecDepth 100000 in
theorem lsEnds_any (A : Option Addr) (c : Nat) (T : List Int) (w : World) (hm : Mem w A (ints T)) (hl : T.length ≤ 1048576) (h0 : 0 < T.length) (hb : ∀ x ∈ T, -1000000 ≤ x ∧ x ≤ 1000000) : Calls Try.prog 98 #[.slice A T.length c] w fun e w' =>
    e = .returned (.tuple #[.int .i64 (lowOf T), .int .i64 (highOf T)]) ∧ Below w.heap.size w w' := by
  obtain ⟨b, off, rfl, h1⟩ := hm.int (headD_at h0)
  have hz := hb _ (head_mem h0)
  have HL : Hid (lowOf T = T.foldl min (T.headD 0)) := Lib.hid rfl
  have HH : Hid (highOf T = T.foldl max (T.headD 0)) := Lib.hid rfl
  generalize T.headD 0 = z at h1 hz HL HH
  have h1' : w.cell? ⟨b, off, none⟩ = some (.int .i64 z) := by simpa using h1
  have h0' : (0 : Int) < (T.length : Int) := by omega
  have HB := Lib.hid hb
  clear hb h1
  go_enter Try.func98, Try.ntmps98
  go_wp2
  go_quiet (fail)
  go_wp2
  go_loop [4, 5, 7, 16] (fun lo hi _ i => ∃ (k : Nat) (x y : Int), k ≤ T.length ∧ i = .int .i64 k ∧ lo = .int .i64 x ∧ hi = .int .i64 y ∧ -1000000 ≤ x ∧ x ≤ 1000000 ∧ -1000000 ≤ y ∧ y ≤ 1000000 ∧ Hid ((T.take k).foldl min z = x) ∧ Hid ((T.take k).foldl max z = y)) (fun _ _ _ i => T.length - (intOf i).toNat)
  case atStart => exact ⟨0, z, z, by omega, rfl, rfl, rfl, hz.1, hz.2, hz.1, hz.2, Lib.hid (by simp), Lib.hid (by simp)⟩
  case round =>
    obtain ⟨k, x, y, hk, rfl, rfl, rfl, x1, x2, y1, y2, HX, HY⟩ := hrel
    by_cases hlt : k < T.length
    · obtain ⟨s, hs⟩ := some_of_lt hlt
      obtain ⟨b2, off2, e2, h2⟩ := hm.int hs
      obtain ⟨rfl, rfl⟩ : b = b2 ∧ off = off2 := by simpa using e2
      have hsb := HB.out s (List.mem_of_getElem? hs)
      have HS := Lib.hid hs
      clear hs e2
      go_wp2_with (first | (go_at_call 71; refine (l1Least_any _ _ _).mono ?_; rintro e w' ⟨rfl, rfl⟩) | (go_at_call 117; refine (l1Most_any _ _ _).mono ?_; rintro e w' ⟨rfl, rfl⟩))
      go_round
      case rel => exact ⟨k + 1, min x s, max y s, by omega, by go_num, rfl, rfl, by omega, by omega, by omega, by omega, Lib.hid (by rw [fold_succ _ _ HS.out, HX.out]), Lib.hid (by rw [fold_succ _ _ HS.out, HY.out])⟩
      case measure => simp [intOf]; omega
    · go_wp2
      go_ret2
      have e1 := HX.out
      have e2 := HY.out
      rw [fold_all _ _ (by omega)] at e1 e2
      exact ⟨ret_ints (by rw [HL.out, e1]) (by rw [HH.out, e2]), by (repeat (first | exact Below.refl _ _ | assumption | (refine Below.alloc ?_ (by first | omega | (simp; done) | (simp; omega)) _) | (refine Below.setCell ?_ (by first | omega | (simp; done) | (simp; omega)) _) | (refine Below.drew ?_) | (refine Below.drewN ?_ _) | (refine Below.next (by assumption) ?_ (by first | omega | (simp; done) | (simp; omega)))))⟩
theorem endsHeard_any (A : Option Addr) (c : Nat) (L : List Sp) (O : List Int) (a : Sp) (w : World) (hm : Mem w A (ints (heard L O a))) (g2 : L.length ≤ 40) (h0 : 0 < L.length) (hL : L.all isSp = true) (hO : ∀ o ∈ O, -10000 ≤ o ∧ o ≤ 10000) (hLO : L.length = O.length) (ha : isSp a = true) : Calls Try.prog 98 #[.slice A L.length c] w fun e w' =>
    e = .returned (.tuple #[.int .i64 (lowOf (heard L O a)), .int .i64 (highOf (heard L O a))]) ∧ Below w.heap.size w w' := by
  have hl := heard_len a hLO
  have := lsEnds_any A c (heard L O a) w hm (by omega) (by omega) (fun x hx => by have := heard_bd hL hO ha x hx; omega)
  rw [hl] at this
  exact this
theorem spreadHeard_any (A : Option Addr) (c : Nat) (L : List Sp) (O : List Int) (a : Sp) (w : World) (hm : Mem w A (ints (heard L O a))) (g2 : L.length ≤ 40) (h0 : 0 < L.length) (hL : L.all isSp = true) (hO : ∀ o ∈ O, -10000 ≤ o ∧ o ≤ 10000) (hLO : L.length = O.length) (ha : isSp a = true) : Calls Try.prog 81 #[.slice A L.length c] w fun e w' =>
    e = .returned (.tuple #[.int .i64 (lowOf (heard L O a)), .int .i64 (hspr L O a)]) ∧ Below w.heap.size w w' := by
  have hl := heard_len a hLO
  have := spreadOf_any A c (heard L O a) w hm (by omega) (by omega) (fun x hx => by have := heard_bd hL hO ha x hx; omega)
  rw [hl] at this
  exact this
set_option maxRecDepth 100000 in
theorem lsSpread_any (A : Option Addr) (c : Nat) (L : List Sp) (B : Option Addr) (d : Nat) (O : List Int) (a : Sp) (w : World) (hm : Mem w A (spots L)) (hn : Mem w B (ints O)) (r2 : L.length ≤ 40) (r3 : 0 < L.length) (r1 : L.all isSp = true) (hO : ∀ o ∈ O, -10000 ≤ o ∧ o ≤ 10000) (hLO : L.length = O.length) (h2 : isSp a = true) :
    Calls Try.prog 97 #[.slice A L.length c, .slice B O.length d, .agg #[.int .i64 a.x, .int .i64 a.y]] w fun e w' => e = .returned (.int .i64 (hspr L O a)) ∧ Below w.heap.size w w' := by
  have hbd := hspr_bd r3 r1 hO hLO h2
  have HO := Lib.hid hO
  have G3 := Lib.hid hLO
  have HD : Hid (hspr L O a = highOf (heard L O a) - lowOf (heard L O a)) := Lib.hid rfl
  clear hO hLO
  go_enter Try.func97, Try.ntmps97
  go_wp2_with (first | (go_at_call 96; refine (lsHeard_any _ _ L _ _ O a _ (hm.below (by (repeat (first | exact Below.refl _ _ | assumption | (refine Below.alloc ?_ (by first | omega | (simp; done) | (simp; omega)) _) | (refine Below.setCell ?_ (by first | omega | (simp; done) | (simp; omega)) _) | (refine Below.drew ?_) | (refine Below.drewN ?_ _) | (refine Below.next (by assumption) ?_ (by first | omega | (simp; done) | (simp; omega))))))) (hn.below (by (repeat (first | exact Below.refl _ _ | assumption | (refine Below.alloc ?_ (by first | omega | (simp; done) | (simp; omega)) _) | (refine Below.setCell ?_ (by first | omega | (simp; done) | (simp; omega)) _) | (refine Below.drew ?_) | (refine Below.drewN ?_ _) | (refine Below.next (by assumption) ?_ (by first | omega | (simp; done) | (simp; omega))))))) r2 r1 HO.out G3.out h2).mono ?_; rintro e w' ⟨A', c', rfl, ho, hq⟩; have hz := hq.size; (try simp at hz); (try have gz1 : w.heap.size < w'.heap.size := by omega); (try have gz2 : w.heap.size + 1 < w'.heap.size := by omega); (try have gz3 : wr.heap.size < w'.heap.size := by omega)) | (go_at_call 98; refine (endsHeard_any _ _ L O a _ (Mem.of_own (by assumption)) r2 r3 r1 HO.out G3.out h2).mono ?_; rintro e w' ⟨rfl, hq⟩; obtain ⟨hz, hc, hf⟩ := bel hq; (try simp at hz); (try have gz1 : w.heap.size < w'.heap.size := by omega); (try have gz2 : w.heap.size + 1 < w'.heap.size := by omega); (try have gz3 : wr.heap.size < w'.heap.size := by omega)))
  go_ret
  exact ⟨ret_int HD.out.symm, by (repeat (first | exact Below.refl _ _ | assumption | (refine Below.alloc ?_ (by first | omega | (simp; done) | (simp; omega)) _) | (refine Below.setCell ?_ (by first | omega | (simp; done) | (simp; omega)) _) | (refine Below.drew ?_) | (refine Below.drewN ?_ _) | (refine Below.next (by assumption) ?_ (by first | omega | (simp; done) | (simp; omega)))))⟩

def hsprV (L : List Sp) (O : List Int) (a : Sp) : Int := if entOk L O && isSp a then hspr L O a else 0
def wlTo (T : List Int) : Nat → Nat × Int
  | 0 => (0, -1)
  | k + 1 => if (wlTo T k).2 < T.getD k 0 then (k, T.getD k 0) else wlTo T k
theorem wlTo_succ {T : List Int} {k n : Nat} {m t : Int} (h : wlTo T k = (n, m)) (ht : T[k]? = some t) : wlTo T (k + 1) = if m < t then (k, t) else (n, m) := by simp [wlTo, h, ht]
def hsprs (L : List Sp) (O : List Int) (M : List Sp) : List Int := M.map (hspr L O)
theorem hsprs_at {L : List Sp} {O : List Int} {M : List Sp} {k : Nat} {s : Sp} (h : M[k]? = some s) : (hsprs L O M)[k]? = some (hspr L O s) := by simp [hsprs, h]
def wl1 (L : List Sp) (O : List Int) (M : List Sp) : Int := if entOk L O && srcOk M then ((wlTo (hsprs L O M) M.length).1 : Int) else 0
def wl2 (L : List Sp) (O : List Int) (M : List Sp) : Int := if entOk L O && srcOk M then (wlTo (hsprs L O M) M.length).2 else 0

set_option maxRecDepth 100000 in
theorem spec_HeardSpread_any (A : Option Addr) (c : Nat) (L : List Sp) (B : Option Addr) (d : Nat) (O : List Int) (a : Sp) (w : World) (hm : Mem w A (spots L)) (hn : Mem w B (ints O)) (hl : L.length ≤ 1048576) (hl2 : O.length ≤ 1048576) : Calls Try.prog 41 #[.slice A L.length c, .slice B O.length d, .agg #[.int .i64 a.x, .int .i64 a.y]] w
    fun e w' => e = .returned (.tuple #[.int .i64 (hsprV L O a), .bool (entOk L O && isSp a)]) ∧ Below w.heap.size w w' := by
  cases h1 : entOk L O
  · go_enter Try.func41, Try.ntmps41
    go_wp2_with (go_at_call 95; refine (lsGood_any _ _ L _ _ O _ (hm.below (by (repeat (first | exact Below.refl _ _ | assumption | (refine Below.alloc ?_ (by first | omega | (simp; done) | (simp; omega)) _) | (refine Below.setCell ?_ (by first | omega | (simp; done) | (simp; omega)) _) | (refine Below.drew ?_) | (refine Below.drewN ?_ _) | (refine Below.next (by assumption) ?_ (by first | omega | (simp; done) | (simp; omega))))))) (hn.below (by (repeat (first | exact Below.refl _ _ | assumption | (refine Below.alloc ?_ (by first | omega | (simp; done) | (simp; omega)) _) | (refine Below.setCell ?_ (by first | omega | (simp; done) | (simp; omega)) _) | (refine Below.drew ?_) | (refine Below.drewN ?_ _) | (refine Below.next (by assumption) ?_ (by first | omega | (simp; done) | (simp; omega))))))) hl hl2).mono ?_; rintro e w' ⟨rfl, hq⟩; obtain ⟨hz, hc, hf⟩ := bel hq; (try simp at hz); (try have gz1 : w.heap.size < w'.heap.size := by omega); (try have gz2 : w.heap.size + 1 < w'.heap.size := by omega); (try have gz3 : wr.heap.size < w'.heap.size := by omega))
    go_ret2
    exact ⟨ret_pair (by simp [hsprV, h1]) (by simp), by (repeat (first | exact Below.refl _ _ | assumption | (refine Below.alloc ?_ (by first | omega | (simp; done) | (simp; omega)) _) | (refine Below.setCell ?_ (by first | omega | (simp; done) | (simp; omega)) _) | (refine Below.drew ?_) | (refine Below.drewN ?_ _) | (refine Below.next (by assumption) ?_ (by first | omega | (simp; done) | (simp; omega)))))⟩
  obtain ⟨g1, g2, g3⟩ := entOk_iff.1 h1
  have G3 := Lib.hid g3
  have HO := Lib.hid (off_all g2)
  clear g3
  obtain ⟨r1, r2, r3⟩ := srcOk_iff.1 g1
  cases h2 : isSp a
  · go_enter Try.func41, Try.ntmps41
    go_wp2_with (first | (go_at_call 95; refine (lsGood_any _ _ L _ _ O _ (hm.below (by (repeat (first | exact Below.refl _ _ | assumption | (refine Below.alloc ?_ (by first | omega | (simp; done) | (simp; omega)) _) | (refine Below.setCell ?_ (by first | omega | (simp; done) | (simp; omega)) _) | (refine Below.drew ?_) | (refine Below.drewN ?_ _) | (refine Below.next (by assumption) ?_ (by first | omega | (simp; done) | (simp; omega))))))) (hn.below (by (repeat (first | exact Below.refl _ _ | assumption | (refine Below.alloc ?_ (by first | omega | (simp; done) | (simp; omega)) _) | (refine Below.setCell ?_ (by first | omega | (simp; done) | (simp; omega)) _) | (refine Below.drew ?_) | (refine Below.drewN ?_ _) | (refine Below.next (by assumption) ?_ (by first | omega | (simp; done) | (simp; omega))))))) hl hl2).mono ?_; rintro e w' ⟨rfl, hq⟩; obtain ⟨hz, hc, hf⟩ := bel hq; (try simp at hz); (try have gz1 : w.heap.size < w'.heap.size := by omega); (try have gz2 : w.heap.size + 1 < w'.heap.size := by omega); (try have gz3 : wr.heap.size < w'.heap.size := by omega)) | (go_at_call 84; refine (stGood_any _ _).mono ?_; rintro e w' ⟨rfl, o, rfl⟩))
    go_ret2
    exact ⟨ret_pair (by simp [hsprV, h2]) (by simp), by (repeat (first | exact Below.refl _ _ | assumption | (refine Below.alloc ?_ (by first | omega | (simp; done) | (simp; omega)) _) | (refine Below.setCell ?_ (by first | omega | (simp; done) | (simp; omega)) _) | (refine Below.drew ?_) | (refine Below.drewN ?_ _) | (refine Below.next (by assumption) ?_ (by first | omega | (simp; done) | (simp; omega)))))⟩
  · have HV : Hid (hsprV L O a = hspr L O a) := Lib.hid (by simp [hsprV, h1, h2])
    go_enter Try.func41, Try.ntmps41
    go_wp2_with (first | (go_at_call 95; refine (lsGood_any _ _ L _ _ O _ (hm.below (by (repeat (first | exact Below.refl _ _ | assumption | (refine Below.alloc ?_ (by first | omega | (simp; done) | (simp; omega)) _) | (refine Below.setCell ?_ (by first | omega | (simp; done) | (simp; omega)) _) | (refine Below.drew ?_) | (refine Below.drewN ?_ _) | (refine Below.next (by assumption) ?_ (by first | omega | (simp; done) | (simp; omega))))))) (hn.below (by (repeat (first | exact Below.refl _ _ | assumption | (refine Below.alloc ?_ (by first | omega | (simp; done) | (simp; omega)) _) | (refine Below.setCell ?_ (by first | omega | (simp; done) | (simp; omega)) _) | (refine Below.drew ?_) | (refine Below.drewN ?_ _) | (refine Below.next (by assumption) ?_ (by first | omega | (simp; done) | (simp; omega))))))) hl hl2).mono ?_; rintro e w' ⟨rfl, hq⟩; obtain ⟨hz, hc, hf⟩ := bel hq; (try simp at hz); (try have gz1 : w.heap.size < w'.heap.size := by omega); (try have gz2 : w.heap.size + 1 < w'.heap.size := by omega); (try have gz3 : wr.heap.size < w'.heap.size := by omega)) | (go_at_call 84; refine (stGood_any _ _).mono ?_; rintro e w' ⟨rfl, o, rfl⟩) | (go_at_call 97; refine (lsSpread_any _ _ L _ _ O a _ (hm.below (by (repeat (first | exact Below.refl _ _ | assumption | (refine Below.alloc ?_ (by first | omega | (simp; done) | (simp; omega)) _) | (refine Below.setCell ?_ (by first | omega | (simp; done) | (simp; omega)) _) | (refine Below.drew ?_) | (refine Below.drewN ?_ _) | (refine Below.next (by assumption) ?_ (by first | omega | (simp; done) | (simp; omega))))))) (hn.below (by (repeat (first | exact Below.refl _ _ | assumption | (refine Below.alloc ?_ (by first | omega | (simp; done) | (simp; omega)) _) | (refine Below.setCell ?_ (by first | omega | (simp; done) | (simp; omega)) _) | (refine Below.drew ?_) | (refine Below.drewN ?_ _) | (refine Below.next (by assumption) ?_ (by first | omega | (simp; done) | (simp; omega))))))) r2 r3 r1 HO.out G3.out h2).mono ?_; rintro e w' ⟨rfl, hq⟩; obtain ⟨hz, hc, hf⟩ := bel hq; (try simp at hz); (try have gz1 : w.heap.size < w'.heap.size := by omega); (try have gz2 : w.heap.size + 1 < w'.heap.size := by omega); (try have gz3 : wr.heap.size < w'.heap.size := by omega)))
    go_ret2
    exact ⟨ret_pair (by rw [HV.out]) (by simp), by (repeat (first | exact Below.refl _ _ | assumption | (refine Below.alloc ?_ (by first | omega | (simp; done) | (simp; omega)) _) | (refine Below.setCell ?_ (by first | omega | (simp; done) | (simp; omega)) _) | (refine Below.drew ?_) | (refine Below.drewN ?_ _) | (refine Below.next (by assumption) ?_ (by first | omega | (simp; done) | (simp; omega)))))⟩
set_option maxHeartbeats 1600000 in
set_option maxRecDepth 100000 in
theorem spec_WorstListener_any (A : Option Addr) (c : Nat) (L : List Sp) (B : Option Addr) (d : Nat) (O : List Int) (C : Option Addr) (f : Nat) (M : List Sp) (w : World) (hm : Mem w A (spots L)) (hn : Mem w B (ints O)) (hp : Mem w C (spots M)) (hl : L.length ≤ 1048576) (hl2 : O.length ≤ 1048576) (hl3 : M.length ≤ 1048576) : Calls Try.prog 57 #[.slice A L.length c, .slice B O.length d, .slice C M.length f] w
    fun e w' => e = .returned (.tuple #[.int .i64 (wl1 L O M), .int .i64 (wl2 L O M), .bool (entOk L O && srcOk M)]) ∧ Below w.heap.size w w' := by
  cases h1 : entOk L O
  · go_enter Try.func57, Try.ntmps57
    go_wp2_with (go_at_call 95; refine (lsGood_any _ _ L _ _ O _ (hm.below (by (repeat (first | exact Below.refl _ _ | assumption | (refine Below.alloc ?_ (by first | omega | (simp; done) | (simp; omega)) _) | (refine Below.setCell ?_ (by first | omega | (simp; done) | (simp; omega)) _) | (refine Below.drew ?_) | (refine Below.drewN ?_ _) | (refine Below.next (by assumption) ?_ (by first | omega | (simp; done) | (simp; omega))))))) (hn.below (by (repeat (first | exact Below.refl _ _ | assumption | (refine Below.alloc ?_ (by first | omega | (simp; done) | (simp; omega)) _) | (refine Below.setCell ?_ (by first | omega | (simp; done) | (simp; omega)) _) | (refine Below.drew ?_) | (refine Below.drewN ?_ _) | (refine Below.next (by assumption) ?_ (by first | omega | (simp; done) | (simp; omega))))))) hl hl2).mono ?_; rintro e w' ⟨rfl, hq⟩; obtain ⟨hz, hc, hf⟩ := bel hq; (try simp at hz); (try have gz1 : w.heap.size < w'.heap.size := by omega); (try have gz2 : w.heap.size + 1 < w'.heap.size := by omega); (try have gz3 : wr.heap.size < w'.heap.size := by omega))
    go_ret3
    exact ⟨ret_three (by simp [wl1, h1]) (by simp [wl2, h1]) (by simp), by (repeat (first | exact Below.refl _ _ | assumption | (refine Below.alloc ?_ (by first | omega | (simp; done) | (simp; omega)) _) | (refine Below.setCell ?_ (by first | omega | (simp; done) | (simp; omega)) _) | (refine Below.drew ?_) | (refine Below.drewN ?_ _) | (refine Below.next (by assumption) ?_ (by first | omega | (simp; done) | (simp; omega)))))⟩
  obtain ⟨g1, g2, g3⟩ := entOk_iff.1 h1
  have G3 := Lib.hid g3
  have HO := Lib.hid (off_all g2)
  clear g3
  obtain ⟨r1, r2, r3⟩ := srcOk_iff.1 g1
  cases h2 : srcOk M
  · go_enter Try.func57, Try.ntmps57
    go_wp2_with (first | (go_at_call 95; refine (lsGood_any _ _ L _ _ O _ (hm.below (by (repeat (first | exact Below.refl _ _ | assumption | (refine Below.alloc ?_ (by first | omega | (simp; done) | (simp; omega)) _) | (refine Below.setCell ?_ (by first | omega | (simp; done) | (simp; omega)) _) | (refine Below.drew ?_) | (refine Below.drewN ?_ _) | (refine Below.next (by assumption) ?_ (by first | omega | (simp; done) | (simp; omega))))))) (hn.below (by (repeat (first | exact Below.refl _ _ | assumption | (refine Below.alloc ?_ (by first | omega | (simp; done) | (simp; omega)) _) | (refine Below.setCell ?_ (by first | omega | (simp; done) | (simp; omega)) _) | (refine Below.drew ?_) | (refine Below.drewN ?_ _) | (refine Below.next (by assumption) ?_ (by first | omega | (simp; done) | (simp; omega))))))) hl hl2).mono ?_; rintro e w' ⟨rfl, hq⟩; obtain ⟨hz, hc, hf⟩ := bel hq; (try simp at hz); (try have gz1 : w.heap.size < w'.heap.size := by omega); (try have gz2 : w.heap.size + 1 < w'.heap.size := by omega); (try have gz3 : wr.heap.size < w'.heap.size := by omega)) | (go_at_call 83; refine (snList_any _ _ M _ (hp.below (by (repeat (first | exact Below.refl _ _ | assumption | (refine Below.alloc ?_ (by first | omega | (simp; done) | (simp; omega)) _) | (refine Below.setCell ?_ (by first | omega | (simp; done) | (simp; omega)) _) | (refine Below.drew ?_) | (refine Below.drewN ?_ _) | (refine Below.next (by assumption) ?_ (by first | omega | (simp; done) | (simp; omega))))))) hl3).mono ?_; rintro e w' ⟨rfl, hq⟩; obtain ⟨hz, hc, hf⟩ := bel hq; (try simp at hz); (try have gz1 : w.heap.size < w'.heap.size := by omega); (try have gz2 : w.heap.size + 1 < w'.heap.size := by omega); (try have gz3 : wr.heap.size < w'.heap.size := by omega)))
    go_ret3
    exact ⟨ret_three (by simp [wl1, h2]) (by simp [wl2, h2]) (by simp), by (repeat (first | exact Below.refl _ _ | assumption | (refine Below.alloc ?_ (by first | omega | (simp; done) | (simp; omega)) _) | (refine Below.setCell ?_ (by first | omega | (simp; done) | (simp; omega)) _) | (refine Below.drew ?_) | (refine Below.drewN ?_ _) | (refine Below.next (by assumption) ?_ (by first | omega | (simp; done) | (simp; omega)))))⟩
  obtain ⟨t1, t2, t3⟩ := srcOk_iff.1 h2
  have HV : Hid (wl1 L O M = ((wlTo (hsprs L O M) M.length).1 : Int) ∧ wl2 L O M = (wlTo (hsprs L O M) M.length).2) := Lib.hid (by simp [wl1, wl2, h1, h2])
  have HT := Lib.hid t1
  go_enter Try.func57, Try.ntmps57
  go_wp2_with (first | (go_at_call 95; refine (lsGood_any _ _ L _ _ O _ (hm.below (by (repeat (first | exact Below.refl _ _ | assumption | (refine Below.alloc ?_ (by first | omega | (simp; done) | (simp; omega)) _) | (refine Below.setCell ?_ (by first | omega | (simp; done) | (simp; omega)) _) | (refine Below.drew ?_) | (refine Below.drewN ?_ _) | (refine Below.next (by assumption) ?_ (by first | omega | (simp; done) | (simp; omega))))))) (hn.below (by (repeat (first | exact Below.refl _ _ | assumption | (refine Below.alloc ?_ (by first | omega | (simp; done) | (simp; omega)) _) | (refine Below.setCell ?_ (by first | omega | (simp; done) | (simp; omega)) _) | (refine Below.drew ?_) | (refine Below.drewN ?_ _) | (refine Below.next (by assumption) ?_ (by first | omega | (simp; done) | (simp; omega))))))) hl hl2).mono ?_; rintro e w' ⟨rfl, hq⟩; obtain ⟨hz, hc, hf⟩ := bel hq; (try simp at hz); (try have gz1 : w.heap.size < w'.heap.size := by omega); (try have gz2 : w.heap.size + 1 < w'.heap.size := by omega); (try have gz3 : wr.heap.size < w'.heap.size := by omega)) | (go_at_call 83; refine (snList_any _ _ M _ (hp.below (by (repeat (first | exact Below.refl _ _ | assumption | (refine Below.alloc ?_ (by first | omega | (simp; done) | (simp; omega)) _) | (refine Below.setCell ?_ (by first | omega | (simp; done) | (simp; omega)) _) | (refine Below.drew ?_) | (refine Below.drewN ?_ _) | (refine Below.next (by assumption) ?_ (by first | omega | (simp; done) | (simp; omega))))))) hl3).mono ?_; rintro e w' ⟨rfl, hq⟩; obtain ⟨hz, hc, hf⟩ := bel hq; (try simp at hz); (try have gz1 : w.heap.size < w'.heap.size := by omega); (try have gz2 : w.heap.size + 1 < w'.heap.size := by omega); (try have gz3 : wr.heap.size < w'.heap.size := by omega)))
  have hb2 : Below w.heap.size w w' := by (repeat (first | exact Below.refl _ _ | assumption | (refine Below.alloc ?_ (by first | omega | (simp; done) | (simp; omega)) _) | (refine Below.setCell ?_ (by first | omega | (simp; done) | (simp; omega)) _) | (refine Below.drew ?_) | (refine Below.drewN ?_ _) | (refine Below.next (by assumption) ?_ (by first | omega | (simp; done) | (simp; omega)))))
  clear hq hz hc hf t1 h1 h2 g1 g2
  go_loopw [9, 10, 11, 12, 13, 25] (fun best most _ _ _ i wr => ∃ (k n : Nat) (m : Int), k ≤ M.length ∧ n ≤ 40 ∧ -1 ≤ m ∧ m ≤ 20302 ∧ i = .int .i64 k ∧ best = .int .i64 n ∧ most = .int .i64 m ∧ Below w.heap.size w wr ∧ Hid (wlTo (hsprs L O M) k = (n, m))) (fun _ _ _ _ _ i _ => M.length - (intOf i).toNat)
  case atStart => exact ⟨0, 0, -1, by omega, by omega, by omega, by omega, rfl, rfl, rfl, hb2, Lib.hid rfl⟩
  case round =>
    obtain ⟨k, n, m, hk, hn1, hm1, hm2, rfl, rfl, rfl, hb, H⟩ := hrel
    have hsz := hb.size
    by_cases hlt : k < M.length
    · obtain ⟨s, hs⟩ := some_of_lt hlt
      obtain ⟨b, off, rfl, e1, e2⟩ := (hp.below hb).spot hs
      have hbl : b < wr.heap.size := World.block_lt_of_cell? wr _ e1
      have hsg := all_at HT.out hs
      have hbd := hspr_bd r3 r1 HO.out G3.out hsg
      have HST := Lib.hid (wlTo_succ H.out (hsprs_at (L := L) (O := O) hs))
      clear hs
      by_cases hcmp : m < hspr L O s
      all_goals
        go_wp2_with (first | (go_at_call 97; refine (lsSpread_any _ _ L _ _ O s _ (hm.below (by (repeat (first | exact Below.refl _ _ | assumption | (refine Below.alloc ?_ (by first | omega | (simp; done) | (simp; omega)) _) | (refine Below.setCell ?_ (by first | omega | (simp; done) | (simp; omega)) _) | (refine Below.drew ?_) | (refine Below.drewN ?_ _) | (refine Below.next (by assumption) ?_ (by first | omega | (simp; done) | (simp; omega))))))) (hn.below (by (repeat (first | exact Below.refl _ _ | assumption | (refine Below.alloc ?_ (by first | omega | (simp; done) | (simp; omega)) _) | (refine Below.setCell ?_ (by first | omega | (simp; done) | (simp; omega)) _) | (refine Below.drew ?_) | (refine Below.drewN ?_ _) | (refine Below.next (by assumption) ?_ (by first | omega | (simp; done) | (simp; omega))))))) r2 r3 r1 HO.out G3.out hsg).mono ?_; rintro e w' ⟨rfl, hq⟩; obtain ⟨hz, hc, hf⟩ := bel hq; (try simp at hz); (try have gz1 : w.heap.size < w'.heap.size := by omega); (try have gz2 : w.heap.size + 1 < w'.heap.size := by omega); (try have gz3 : wr.heap.size < w'.heap.size := by omega)))
        go_roundw
        case rel => first
          | exact ⟨k + 1, k, hspr L O s, by omega, by omega, by omega, by omega, by go_num, rfl, rfl, by (repeat (first | exact Below.refl _ _ | assumption | (refine Below.alloc ?_ (by first | omega | (simp; done) | (simp; omega)) _) | (refine Below.setCell ?_ (by first | omega | (simp; done) | (simp; omega)) _) | (refine Below.drew ?_) | (refine Below.drewN ?_ _) | (refine Below.next (by assumption) ?_ (by first | omega | (simp; done) | (simp; omega))))), Lib.hid (by rw [HST.out, if_pos (by omega)])⟩
          | exact ⟨k + 1, n, m, by omega, by omega, by omega, by omega, by go_num, rfl, rfl, by (repeat (first | exact Below.refl _ _ | assumption | (refine Below.alloc ?_ (by first | omega | (simp; done) | (simp; omega)) _) | (refine Below.setCell ?_ (by first | omega | (simp; done) | (simp; omega)) _) | (refine Below.drew ?_) | (refine Below.drewN ?_ _) | (refine Below.next (by assumption) ?_ (by first | omega | (simp; done) | (simp; omega))))), Lib.hid (by rw [HST.out, if_neg (by omega)])⟩
        case measure => simp [intOf]; omega
    · go_wp2
      go_ret3
      have e1 : k = M.length := by omega
      subst e1
      exact ⟨ret_three (by rw [HV.out.1, H.out]) (by rw [HV.out.2, H.out]) (by simp), hb⟩

set_option maxRecDepth 100000 in
theorem impl_HeardSpread_any (A : Option Addr) (c : Nat) (L : List Sp) (B : Option Addr) (d : Nat) (O : List Int) (a : Sp) (w : World) (hm : Mem w A (spots L)) (hn : Mem w B (ints O)) (hl : L.length ≤ 1048576) (hl2 : O.length ≤ 1048576) : Calls Try.prog 40 #[.slice A L.length c, .slice B O.length d, .agg #[.int .i64 a.x, .int .i64 a.y]] w
    fun e w' => e = .returned (.tuple #[.int .i64 (hsprV L O a), .bool (entOk L O && isSp a)]) ∧ Below w.heap.size w w' := by
  cases h1 : entOk L O
  · go_enter Try.func40, Try.ntmps40
    go_wp2_with (go_at_call 93; refine (areEntries_any _ _ L _ _ O _ (hm.below (by (repeat (first | exact Below.refl _ _ | assumption | (refine Below.alloc ?_ (by first | omega | (simp; done) | (simp; omega)) _) | (refine Below.setCell ?_ (by first | omega | (simp; done) | (simp; omega)) _) | (refine Below.drew ?_) | (refine Below.drewN ?_ _) | (refine Below.next (by assumption) ?_ (by first | omega | (simp; done) | (simp; omega))))))) (hn.below (by (repeat (first | exact Below.refl _ _ | assumption | (refine Below.alloc ?_ (by first | omega | (simp; done) | (simp; omega)) _) | (refine Below.setCell ?_ (by first | omega | (simp; done) | (simp; omega)) _) | (refine Below.drew ?_) | (refine Below.drewN ?_ _) | (refine Below.next (by assumption) ?_ (by first | omega | (simp; done) | (simp; omega))))))) hl hl2).mono ?_; rintro e w' ⟨rfl, hq⟩; obtain ⟨hz, hc, hf⟩ := bel hq; (try simp at hz); (try have gz1 : w.heap.size < w'.heap.size := by omega); (try have gz2 : w.heap.size + 1 < w'.heap.size := by omega); (try have gz3 : wr.heap.size < w'.heap.size := by omega))
    go_ret2
    exact ⟨ret_pair (by simp [hsprV, h1]) (by simp), by (repeat (first | exact Below.refl _ _ | assumption | (refine Below.alloc ?_ (by first | omega | (simp; done) | (simp; omega)) _) | (refine Below.setCell ?_ (by first | omega | (simp; done) | (simp; omega)) _) | (refine Below.drew ?_) | (refine Below.drewN ?_ _) | (refine Below.next (by assumption) ?_ (by first | omega | (simp; done) | (simp; omega)))))⟩
  obtain ⟨g1, g2, g3⟩ := entOk_iff.1 h1
  have G3 := Lib.hid g3
  have HO := Lib.hid (off_all g2)
  clear g3
  obtain ⟨r1, r2, r3⟩ := srcOk_iff.1 g1
  cases h2 : isSp a
  · go_enter Try.func40, Try.ntmps40
    go_wp2_with (first | (go_at_call 93; refine (areEntries_any _ _ L _ _ O _ (hm.below (by (repeat (first | exact Below.refl _ _ | assumption | (refine Below.alloc ?_ (by first | omega | (simp; done) | (simp; omega)) _) | (refine Below.setCell ?_ (by first | omega | (simp; done) | (simp; omega)) _) | (refine Below.drew ?_) | (refine Below.drewN ?_ _) | (refine Below.next (by assumption) ?_ (by first | omega | (simp; done) | (simp; omega))))))) (hn.below (by (repeat (first | exact Below.refl _ _ | assumption | (refine Below.alloc ?_ (by first | omega | (simp; done) | (simp; omega)) _) | (refine Below.setCell ?_ (by first | omega | (simp; done) | (simp; omega)) _) | (refine Below.drew ?_) | (refine Below.drewN ?_ _) | (refine Below.next (by assumption) ?_ (by first | omega | (simp; done) | (simp; omega))))))) hl hl2).mono ?_; rintro e w' ⟨rfl, hq⟩; obtain ⟨hz, hc, hf⟩ := bel hq; (try simp at hz); (try have gz1 : w.heap.size < w'.heap.size := by omega); (try have gz2 : w.heap.size + 1 < w'.heap.size := by omega); (try have gz3 : wr.heap.size < w'.heap.size := by omega)) | (go_at_call 73; refine (isSpot_any _ _).mono ?_; rintro e w' ⟨rfl, o, rfl⟩))
    go_ret2
    exact ⟨ret_pair (by simp [hsprV, h2]) (by simp), by (repeat (first | exact Below.refl _ _ | assumption | (refine Below.alloc ?_ (by first | omega | (simp; done) | (simp; omega)) _) | (refine Below.setCell ?_ (by first | omega | (simp; done) | (simp; omega)) _) | (refine Below.drew ?_) | (refine Below.drewN ?_ _) | (refine Below.next (by assumption) ?_ (by first | omega | (simp; done) | (simp; omega)))))⟩
  · have HV : Hid (hsprV L O a = hspr L O a) := Lib.hid (by simp [hsprV, h1, h2])
    go_enter Try.func40, Try.ntmps40
    go_wp2_with (first | (go_at_call 93; refine (areEntries_any _ _ L _ _ O _ (hm.below (by (repeat (first | exact Below.refl _ _ | assumption | (refine Below.alloc ?_ (by first | omega | (simp; done) | (simp; omega)) _) | (refine Below.setCell ?_ (by first | omega | (simp; done) | (simp; omega)) _) | (refine Below.drew ?_) | (refine Below.drewN ?_ _) | (refine Below.next (by assumption) ?_ (by first | omega | (simp; done) | (simp; omega))))))) (hn.below (by (repeat (first | exact Below.refl _ _ | assumption | (refine Below.alloc ?_ (by first | omega | (simp; done) | (simp; omega)) _) | (refine Below.setCell ?_ (by first | omega | (simp; done) | (simp; omega)) _) | (refine Below.drew ?_) | (refine Below.drewN ?_ _) | (refine Below.next (by assumption) ?_ (by first | omega | (simp; done) | (simp; omega))))))) hl hl2).mono ?_; rintro e w' ⟨rfl, hq⟩; obtain ⟨hz, hc, hf⟩ := bel hq; (try simp at hz); (try have gz1 : w.heap.size < w'.heap.size := by omega); (try have gz2 : w.heap.size + 1 < w'.heap.size := by omega); (try have gz3 : wr.heap.size < w'.heap.size := by omega)) | (go_at_call 73; refine (isSpot_any _ _).mono ?_; rintro e w' ⟨rfl, o, rfl⟩) | (go_at_call 94; refine (heardTimes_any _ _ L _ _ O a _ (hm.below (by (repeat (first | exact Below.refl _ _ | assumption | (refine Below.alloc ?_ (by first | omega | (simp; done) | (simp; omega)) _) | (refine Below.setCell ?_ (by first | omega | (simp; done) | (simp; omega)) _) | (refine Below.drew ?_) | (refine Below.drewN ?_ _) | (refine Below.next (by assumption) ?_ (by first | omega | (simp; done) | (simp; omega))))))) (hn.below (by (repeat (first | exact Below.refl _ _ | assumption | (refine Below.alloc ?_ (by first | omega | (simp; done) | (simp; omega)) _) | (refine Below.setCell ?_ (by first | omega | (simp; done) | (simp; omega)) _) | (refine Below.drew ?_) | (refine Below.drewN ?_ _) | (refine Below.next (by assumption) ?_ (by first | omega | (simp; done) | (simp; omega))))))) r2 r1 HO.out G3.out h2).mono ?_; rintro e w' ⟨A', c', rfl, ho, hq⟩; have hz := hq.size; (try simp at hz); (try have gz1 : w.heap.size < w'.heap.size := by omega); (try have gz2 : w.heap.size + 1 < w'.heap.size := by omega); (try have gz3 : wr.heap.size < w'.heap.size := by omega)) | (go_at_call 81; refine (spreadHeard_any _ _ L O a _ (Mem.of_own (by assumption)) r2 r3 r1 HO.out G3.out h2).mono ?_; rintro e w' ⟨rfl, hq⟩; obtain ⟨hz, hc, hf⟩ := bel hq; (try simp at hz); (try have gz1 : w.heap.size < w'.heap.size := by omega); (try have gz2 : w.heap.size + 1 < w'.heap.size := by omega); (try have gz3 : wr.heap.size < w'.heap.size := by omega)))
    go_ret2
    exact ⟨ret_pair (by rw [HV.out]) (by simp), by (repeat (first | exact Below.refl _ _ | assumption | (refine Below.alloc ?_ (by first | omega | (simp; done) | (simp; omega)) _) | (refine Below.setCell ?_ (by first | omega | (simp; done) | (simp; omega)) _) | (refine Below.drew ?_) | (refine Below.drewN ?_ _) | (refine Below.next (by assumption) ?_ (by first | omega | (simp; done) | (simp; omega)))))⟩
set_option maxHeartbeats 1600000 in
set_option maxRecDepth 100000 in
theorem impl_WorstListener_any (A : Option Addr) (c : Nat) (L : List Sp) (B : Option Addr) (d : Nat) (O : List Int) (C : Option Addr) (f : Nat) (M : List Sp) (w : World) (hm : Mem w A (spots L)) (hn : Mem w B (ints O)) (hp : Mem w C (spots M)) (hl : L.length ≤ 1048576) (hl2 : O.length ≤ 1048576) (hl3 : M.length ≤ 1048576) : Calls Try.prog 56 #[.slice A L.length c, .slice B O.length d, .slice C M.length f] w
    fun e w' => e = .returned (.tuple #[.int .i64 (wl1 L O M), .int .i64 (wl2 L O M), .bool (entOk L O && srcOk M)]) ∧ Below w.heap.size w w' := by
  cases h1 : entOk L O
  · go_enter Try.func56, Try.ntmps56
    go_wp2_with (go_at_call 93; refine (areEntries_any _ _ L _ _ O _ (hm.below (by (repeat (first | exact Below.refl _ _ | assumption | (refine Below.alloc ?_ (by first | omega | (simp; done) | (simp; omega)) _) | (refine Below.setCell ?_ (by first | omega | (simp; done) | (simp; omega)) _) | (refine Below.drew ?_) | (refine Below.drewN ?_ _) | (refine Below.next (by assumption) ?_ (by first | omega | (simp; done) | (simp; omega))))))) (hn.below (by (repeat (first | exact Below.refl _ _ | assumption | (refine Below.alloc ?_ (by first | omega | (simp; done) | (simp; omega)) _) | (refine Below.setCell ?_ (by first | omega | (simp; done) | (simp; omega)) _) | (refine Below.drew ?_) | (refine Below.drewN ?_ _) | (refine Below.next (by assumption) ?_ (by first | omega | (simp; done) | (simp; omega))))))) hl hl2).mono ?_; rintro e w' ⟨rfl, hq⟩; obtain ⟨hz, hc, hf⟩ := bel hq; (try simp at hz); (try have gz1 : w.heap.size < w'.heap.size := by omega); (try have gz2 : w.heap.size + 1 < w'.heap.size := by omega); (try have gz3 : wr.heap.size < w'.heap.size := by omega))
    go_ret3
    exact ⟨ret_three (by simp [wl1, h1]) (by simp [wl2, h1]) (by simp), by (repeat (first | exact Below.refl _ _ | assumption | (refine Below.alloc ?_ (by first | omega | (simp; done) | (simp; omega)) _) | (refine Below.setCell ?_ (by first | omega | (simp; done) | (simp; omega)) _) | (refine Below.drew ?_) | (refine Below.drewN ?_ _) | (refine Below.next (by assumption) ?_ (by first | omega | (simp; done) | (simp; omega)))))⟩
  obtain ⟨g1, g2, g3⟩ := entOk_iff.1 h1
  have G3 := Lib.hid g3
  have HO := Lib.hid (off_all g2)
  clear g3
  obtain ⟨r1, r2, r3⟩ := srcOk_iff.1 g1
  cases h2 : srcOk M
  · go_enter Try.func56, Try.ntmps56
    go_wp2_with (first | (go_at_call 93; refine (areEntries_any _ _ L _ _ O _ (hm.below (by (repeat (first | exact Below.refl _ _ | assumption | (refine Below.alloc ?_ (by first | omega | (simp; done) | (simp; omega)) _) | (refine Below.setCell ?_ (by first | omega | (simp; done) | (simp; omega)) _) | (refine Below.drew ?_) | (refine Below.drewN ?_ _) | (refine Below.next (by assumption) ?_ (by first | omega | (simp; done) | (simp; omega))))))) (hn.below (by (repeat (first | exact Below.refl _ _ | assumption | (refine Below.alloc ?_ (by first | omega | (simp; done) | (simp; omega)) _) | (refine Below.setCell ?_ (by first | omega | (simp; done) | (simp; omega)) _) | (refine Below.drew ?_) | (refine Below.drewN ?_ _) | (refine Below.next (by assumption) ?_ (by first | omega | (simp; done) | (simp; omega))))))) hl hl2).mono ?_; rintro e w' ⟨rfl, hq⟩; obtain ⟨hz, hc, hf⟩ := bel hq; (try simp at hz); (try have gz1 : w.heap.size < w'.heap.size := by omega); (try have gz2 : w.heap.size + 1 < w'.heap.size := by omega); (try have gz3 : wr.heap.size < w'.heap.size := by omega)) | (go_at_call 80; refine (areSources_any _ _ M _ (hp.below (by (repeat (first | exact Below.refl _ _ | assumption | (refine Below.alloc ?_ (by first | omega | (simp; done) | (simp; omega)) _) | (refine Below.setCell ?_ (by first | omega | (simp; done) | (simp; omega)) _) | (refine Below.drew ?_) | (refine Below.drewN ?_ _) | (refine Below.next (by assumption) ?_ (by first | omega | (simp; done) | (simp; omega))))))) hl3).mono ?_; rintro e w' ⟨rfl, hq⟩; obtain ⟨hz, hc, hf⟩ := bel hq; (try simp at hz); (try have gz1 : w.heap.size < w'.heap.size := by omega); (try have gz2 : w.heap.size + 1 < w'.heap.size := by omega); (try have gz3 : wr.heap.size < w'.heap.size := by omega)))
    go_ret3
    exact ⟨ret_three (by simp [wl1, h2]) (by simp [wl2, h2]) (by simp), by (repeat (first | exact Below.refl _ _ | assumption | (refine Below.alloc ?_ (by first | omega | (simp; done) | (simp; omega)) _) | (refine Below.setCell ?_ (by first | omega | (simp; done) | (simp; omega)) _) | (refine Below.drew ?_) | (refine Below.drewN ?_ _) | (refine Below.next (by assumption) ?_ (by first | omega | (simp; done) | (simp; omega)))))⟩
  obtain ⟨t1, t2, t3⟩ := srcOk_iff.1 h2
  have HV : Hid (wl1 L O M = ((wlTo (hsprs L O M) M.length).1 : Int) ∧ wl2 L O M = (wlTo (hsprs L O M) M.length).2) := Lib.hid (by simp [wl1, wl2, h1, h2])
  have HT := Lib.hid t1
  go_enter Try.func56, Try.ntmps56
  go_wp2_with (first | (go_at_call 93; refine (areEntries_any _ _ L _ _ O _ (hm.below (by (repeat (first | exact Below.refl _ _ | assumption | (refine Below.alloc ?_ (by first | omega | (simp; done) | (simp; omega)) _) | (refine Below.setCell ?_ (by first | omega | (simp; done) | (simp; omega)) _) | (refine Below.drew ?_) | (refine Below.drewN ?_ _) | (refine Below.next (by assumption) ?_ (by first | omega | (simp; done) | (simp; omega))))))) (hn.below (by (repeat (first | exact Below.refl _ _ | assumption | (refine Below.alloc ?_ (by first | omega | (simp; done) | (simp; omega)) _) | (refine Below.setCell ?_ (by first | omega | (simp; done) | (simp; omega)) _) | (refine Below.drew ?_) | (refine Below.drewN ?_ _) | (refine Below.next (by assumption) ?_ (by first | omega | (simp; done) | (simp; omega))))))) hl hl2).mono ?_; rintro e w' ⟨rfl, hq⟩; obtain ⟨hz, hc, hf⟩ := bel hq; (try simp at hz); (try have gz1 : w.heap.size < w'.heap.size := by omega); (try have gz2 : w.heap.size + 1 < w'.heap.size := by omega); (try have gz3 : wr.heap.size < w'.heap.size := by omega)) | (go_at_call 80; refine (areSources_any _ _ M _ (hp.below (by (repeat (first | exact Below.refl _ _ | assumption | (refine Below.alloc ?_ (by first | omega | (simp; done) | (simp; omega)) _) | (refine Below.setCell ?_ (by first | omega | (simp; done) | (simp; omega)) _) | (refine Below.drew ?_) | (refine Below.drewN ?_ _) | (refine Below.next (by assumption) ?_ (by first | omega | (simp; done) | (simp; omega))))))) hl3).mono ?_; rintro e w' ⟨rfl, hq⟩; obtain ⟨hz, hc, hf⟩ := bel hq; (try simp at hz); (try have gz1 : w.heap.size < w'.heap.size := by omega); (try have gz2 : w.heap.size + 1 < w'.heap.size := by omega); (try have gz3 : wr.heap.size < w'.heap.size := by omega)))
  have hb2 : Below w.heap.size w w' := by (repeat (first | exact Below.refl _ _ | assumption | (refine Below.alloc ?_ (by first | omega | (simp; done) | (simp; omega)) _) | (refine Below.setCell ?_ (by first | omega | (simp; done) | (simp; omega)) _) | (refine Below.drew ?_) | (refine Below.drewN ?_ _) | (refine Below.next (by assumption) ?_ (by first | omega | (simp; done) | (simp; omega)))))
  clear hq hz hc hf t1 h1 h2 g1 g2
  go_loopw [9, 10, 11, 12, 13, 14, 26] (fun best most _ _ _ _ i wr => ∃ (k n : Nat) (m : Int), k ≤ M.length ∧ n ≤ 40 ∧ -1 ≤ m ∧ m ≤ 20302 ∧ i = .int .i64 k ∧ best = .int .i64 n ∧ most = .int .i64 m ∧ Below w.heap.size w wr ∧ Hid (wlTo (hsprs L O M) k = (n, m))) (fun _ _ _ _ _ _ i _ => M.length - (intOf i).toNat)
  case atStart => exact ⟨0, 0, -1, by omega, by omega, by omega, by omega, rfl, rfl, rfl, hb2, Lib.hid rfl⟩
  case round =>
    obtain ⟨k, n, m, hk, hn1, hm1, hm2, rfl, rfl, rfl, hb, H⟩ := hrel
    have hsz := hb.size
    by_cases hlt : k < M.length
    · obtain ⟨s, hs⟩ := some_of_lt hlt
      obtain ⟨b, off, rfl, e1, e2⟩ := (hp.below hb).spot hs
      have hbl : b < wr.heap.size := World.block_lt_of_cell? wr _ e1
      have hsg := all_at HT.out hs
      have hbd := hspr_bd r3 r1 HO.out G3.out hsg
      have HST := Lib.hid (wlTo_succ H.out (hsprs_at (L := L) (O := O) hs))
      clear hs
      by_cases hcmp : m < hspr L O s
      all_goals
        go_wp2_with (first | (go_at_call 94; refine (heardTimes_any _ _ L _ _ O s _ (hm.below (by (repeat (first | exact Below.refl _ _ | assumption | (refine Below.alloc ?_ (by first | omega | (simp; done) | (simp; omega)) _) | (refine Below.setCell ?_ (by first | omega | (simp; done) | (simp; omega)) _) | (refine Below.drew ?_) | (refine Below.drewN ?_ _) | (refine Below.next (by assumption) ?_ (by first | omega | (simp; done) | (simp; omega))))))) (hn.below (by (repeat (first | exact Below.refl _ _ | assumption | (refine Below.alloc ?_ (by first | omega | (simp; done) | (simp; omega)) _) | (refine Below.setCell ?_ (by first | omega | (simp; done) | (simp; omega)) _) | (refine Below.drew ?_) | (refine Below.drewN ?_ _) | (refine Below.next (by assumption) ?_ (by first | omega | (simp; done) | (simp; omega))))))) r2 r1 HO.out G3.out hsg).mono ?_; rintro e w' ⟨A', c', rfl, ho, hq⟩; have hz := hq.size; (try simp at hz); (try have gz1 : w.heap.size < w'.heap.size := by omega); (try have gz2 : w.heap.size + 1 < w'.heap.size := by omega); (try have gz3 : wr.heap.size < w'.heap.size := by omega)) | (go_at_call 81; refine (spreadHeard_any _ _ L O s _ (Mem.of_own (by assumption)) r2 r3 r1 HO.out G3.out hsg).mono ?_; rintro e w' ⟨rfl, hq⟩; obtain ⟨hz, hc, hf⟩ := bel hq; (try simp at hz); (try have gz1 : w.heap.size < w'.heap.size := by omega); (try have gz2 : w.heap.size + 1 < w'.heap.size := by omega); (try have gz3 : wr.heap.size < w'.heap.size := by omega)))
        go_roundw
        case rel => first
          | exact ⟨k + 1, k, hspr L O s, by omega, by omega, by omega, by omega, by go_num, rfl, rfl, by (repeat (first | exact Below.refl _ _ | assumption | (refine Below.alloc ?_ (by first | omega | (simp; done) | (simp; omega)) _) | (refine Below.setCell ?_ (by first | omega | (simp; done) | (simp; omega)) _) | (refine Below.drew ?_) | (refine Below.drewN ?_ _) | (refine Below.next (by assumption) ?_ (by first | omega | (simp; done) | (simp; omega))))), Lib.hid (by rw [HST.out, if_pos (by omega)])⟩
          | exact ⟨k + 1, n, m, by omega, by omega, by omega, by omega, by go_num, rfl, rfl, by (repeat (first | exact Below.refl _ _ | assumption | (refine Below.alloc ?_ (by first | omega | (simp; done) | (simp; omega)) _) | (refine Below.setCell ?_ (by first | omega | (simp; done) | (simp; omega)) _) | (refine Below.drew ?_) | (refine Below.drewN ?_ _) | (refine Below.next (by assumption) ?_ (by first | omega | (simp; done) | (simp; omega))))), Lib.hid (by rw [HST.out, if_neg (by omega)])⟩
        case measure => simp [intOf]; omega
    · go_wp2
      go_ret3
      have e1 : k = M.length := by omega
      subst e1
      exact ⟨ret_three (by rw [HV.out.1, H.out]) (by rw [HV.out.2, H.out]) (by simp), hb⟩

end Go.Proofs.Ytdipmjflgjlfeaa
