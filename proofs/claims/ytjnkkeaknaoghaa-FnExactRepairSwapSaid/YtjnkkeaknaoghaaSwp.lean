/-
  Contracts: copies of transitions; a transition with two places swapped.
-/
import Derived.Test.YtjnkkeaknaoghaaTr
import Derived.Test.YtjnkkeaknaoghaaCpySp
import Derived.Test.YtjnkkeaknaoghaaApp
import Derived.BigRegion
import Derived.Lib.QuietBelow
namespace Go.Proofs.Ytjnkkeaknaoghaa
open Go.RowKit Go.Sort Go.Lib

def swp (P : List Int) (i k : Nat) : List Int := (P.set i (P.getD k 0)).set k (P.getD i 0)
theorem swp_len (P : List Int) (i k : Nat) : (swp P i k).length = P.length := by simp [swp]
def tau (i k j : Nat) : Nat := if j = k then i else if j = i then k else j
theorem swp_at {P : List Int} {i k : Nat} (hi : i < P.length) (hk : k < P.length) (j : Nat) : (swp P i k)[j]? = P[tau i k j]? := by
  unfold swp tau
  by_cases h1 : j = k
  · subst h1
    rw [List.getElem?_set_self (by simpa using hk), if_pos rfl]
    simp [hi]
  · rw [List.getElem?_set_ne (by omega), if_neg h1]
    by_cases h2 : j = i
    · subst h2
      rw [List.getElem?_set_self hi, if_pos rfl]
      simp [hk]
    · rw [List.getElem?_set_ne (by omega), if_neg h2]
theorem tau_inj {i k a b : Nat} (h : tau i k a = tau i k b) : a = b := by
  unfold tau at h
  split at h <;> split at h <;> (try split at h) <;> (try split at h) <;> omega
theorem plOk_of {m : Nat} {P : List Int} (h1 : ∀ (j : Nat) (x : Int), P[j]? = some x → inR x 0 (m - 1) = true) (h2 : ∀ (a b : Nat) (x : Int), a < b → P[a]? = some x → P[b]? = some x → False) (h3 : P.length = m) : plOk m P = true := by
  have key : ∀ k, k ≤ P.length → plTo m P k = true := by
    intro k
    induction k with
    | zero => intro _; rfl
    | succ k ih =>
      intro hk
      obtain ⟨x, hx⟩ := some_of_lt (L := P) (k := k) (by omega)
      refine plTo_yes (ih (by omega)) hx (h1 k x hx) ?_
      cases hh : has (P.take k) x
      · rfl
      · exfalso
        have hm : x ∈ P.take k := by simpa [has] using hh
        obtain ⟨a, ha⟩ := List.getElem?_of_mem hm
        have hak : a < k := by
          have := (List.getElem?_eq_some_iff.1 ha).1
          simp at this; omega
        rw [List.getElem?_take_of_lt hak] at ha
        exact h2 a k x hak ha hx
  exact plOk_iff.2 ⟨key _ (Nat.le_refl _), h3⟩
theorem plOk_inj {m : Nat} {P : List Int} (h : plOk m P = true) {a b : Nat} {x : Int} (hab : a < b) (ha : P[a]? = some x) (hb : P[b]? = some x) : False := by
  have h1 := (plTo_at (plOk_iff.1 h).1 (List.getElem?_eq_some_iff.1 hb).1 hb).2
  have hm : x ∈ P.take b := by
    have : (P.take b)[a]? = some x := by rw [List.getElem?_take_of_lt hab]; exact ha
    exact List.mem_of_getElem? this
  have : has (P.take b) x = true := by simpa [has] using hm
  rw [h1] at this
  cases this
theorem swp_ok {m : Nat} {P : List Int} (h : plOk m P = true) {i k : Nat} (hi : i < P.length) (hk : k < P.length) : plOk m (swp P i k) = true := by
  have hr := (plOk_iff.1 h).1
  refine plOk_of ?_ ?_ (by rw [swp_len]; exact (plOk_iff.1 h).2)
  · intro j x hx
    rw [swp_at hi hk] at hx
    exact (plTo_at hr (List.getElem?_eq_some_iff.1 hx).1 hx).1
  · intro a b x hab ha hb
    rw [swp_at hi hk] at ha hb
    have hne : tau i k a ≠ tau i k b := fun e => by have := tau_inj e; omega
    rcases Nat.lt_or_gt_of_ne hne with h5 | h5
    · exact plOk_inj h h5 ha hb
    · exact plOk_inj h h5 hb ha

theorem ints_one_ : ∀ (L : List Int), ∀ u ∈ ints L, u.oneCell' = true := fun L u hu => by
  simp only [ints, List.mem_flatMap] at hu
  obtain ⟨s, _, hu⟩ := hu
  simp at hu
  subst hu; rfl
theorem spots_one_ : ∀ (L : List Sp), ∀ u ∈ spots L, u.oneCell' = true := fun L u hu => by
  simp only [spots, List.mem_flatMap] at hu
  obtain ⟨s, _, hu⟩ := hu
  simp at hu
  rcases hu with rfl | rfl <;> rfl

theorem chOwn2_any (A : Option Addr) (c : Nat) (L : List Sp) (w : World) (hm : Mem w A (spots L)) (hl : L.length ≤ 1048576) (h0 : 0 < L.length) : Calls Try.prog 92 #[.slice A L.length c] w fun e w' =>
    ∃ A' c', e = .returned (.slice A' L.length c') ∧ w'.ownsRow w.heap.size 73 2 (.slice A' L.length c') L.length (spots L) ∧ Below w.heap.size w w' := by
  obtain ⟨i0, hi, hz0, hz1, hz2⟩ := info_parts info_spot
  obtain ⟨b, off, rfl, hc⟩ := hm (by intro h; have := spots_len L; rw [h] at this; simp at this; omega)
  have HC := Lib.hid hc
  clear hc
  have hbl : b < w.heap.size := World.block_lt_of_cell? w _ (HC.out 0 _ (List.getElem?_eq_getElem (by rw [spots_len]; omega)))
  have ho0 : (w.alloc (.cells #[] 73)).ownsRow w.heap.size 73 2 (.slice (some ⟨w.heap.size, 0, none⟩) 0 0) 0 [] := own_empty _ _ rfl (Nat.le_refl _) rfl
  have HO := Lib.hid ho0
  clear ho0
  go_enter Try.func92, Try.ntmps92
  go_wp2_with (at_builtin; refine wpList_append_own _ rfl (.tmp 3) (.tmp 4) 29 rfl w.heap.size 73 i0 (.agg #[.int .i64 0, .int .i64 0]) 2 16 Try.underlying29 hi hz0 hz1 hz2 rfl (by omega) _ _ _ rfl HO.out ⟨b, off, none⟩ L.length c (spots L) rfl (spots_len L) (fun j u hu => by rw [Addr.add_lit]; exact keep1 ((Below.refl _ _).alloc (Nat.le_refl _) _) (HC.out j u hu)) (spots_one_ L) (by unfold maxLen; omega) (by omega) (by simp) ?_; intro v' w1 ho1 hg1 _)
  go_ret
  rw [Nat.zero_add, List.nil_append] at ho1
  obtain ⟨A', c', rfl⟩ := own_form ho1
  exact ⟨A', c', rfl, ho1, ((Below.refl _ _).alloc (Nat.le_refl _) _).grown hg1 (by simp) (fun k hk => by have h9 : w.heap.size = k := Option.some.inj hk; omega)⟩

theorem l1Own_any (A : Option Addr) (c : Nat) (L : List Int) (w : World) (hm : Mem w A (ints L)) (hl : L.length ≤ 1048576) (h0 : 0 < L.length) : Calls Try.prog 101 #[.slice A L.length c] w fun e w' =>
    ∃ A' c', e = .returned (.slice A' L.length c') ∧ w'.ownsRow w.heap.size 3 1 (.slice A' L.length c') L.length (ints L) ∧ Below w.heap.size w w' := by
  obtain ⟨i0, hi, hz0, hz1, hz2⟩ := info_parts info_int
  obtain ⟨b, off, rfl, hc⟩ := hm (by intro h; have := ints_len L; rw [h] at this; simp at this; omega)
  have HC := Lib.hid hc
  clear hc
  have hbl : b < w.heap.size := World.block_lt_of_cell? w _ (HC.out 0 _ (List.getElem?_eq_getElem (by rw [ints_len]; omega)))
  have ho0 : (w.alloc (.cells #[] 3)).ownsRow w.heap.size 3 1 (.slice (some ⟨w.heap.size, 0, none⟩) 0 0) 0 [] := own_empty _ _ rfl (Nat.le_refl _) rfl
  have HO := Lib.hid ho0
  clear ho0
  go_enter Try.func101, Try.ntmps101
  go_wp2_with (at_builtin; refine wpList_append_own _ rfl (.tmp 3) (.tmp 4) 23 rfl w.heap.size 3 i0 (.int .i64 0) 1 8 Try.underlying23 hi hz0 hz1 hz2 rfl (by omega) _ _ _ rfl HO.out ⟨b, off, none⟩ L.length c (ints L) rfl (by rw [ints_len]; omega) (fun j u hu => by rw [Addr.add_lit]; exact keep1 ((Below.refl _ _).alloc (Nat.le_refl _) _) (HC.out j u hu)) (ints_one_ L) (by unfold maxLen; omega) (by omega) (by simp) ?_; intro v' w1 ho1 hg1 _)
  go_ret
  rw [Nat.zero_add, List.nil_append] at ho1
  obtain ⟨A', c', rfl⟩ := own_form ho1
  exact ⟨A', c', rfl, ho1, ((Below.refl _ _).alloc (Nat.le_refl _) _).grown hg1 (by simp) (fun k hk => by have h9 : w.heap.size = k := Option.some.inj hk; omega)⟩

theorem copyInts_any (A : Option Addr) (c : Nat) (L : List Int) (w : World) (hm : Mem w A (ints L)) (hl : L.length ≤ 1048576) (h0 : 0 < L.length) : Calls Try.prog 143 #[.slice A L.length c] w fun e w' =>
    ∃ A' c', e = .returned (.slice A' L.length c') ∧ w'.ownsRow w.heap.size 3 1 (.slice A' L.length c') L.length (ints L) ∧ Below w.heap.size w w' := by
  obtain ⟨i0, hi, hz0, hz1, hz2⟩ := info_parts info_int
  obtain ⟨b, off, rfl, hc⟩ := hm (by intro h; have := ints_len L; rw [h] at this; simp at this; omega)
  have HC := Lib.hid hc
  clear hc
  have hbl : b < w.heap.size := World.block_lt_of_cell? w _ (HC.out 0 _ (List.getElem?_eq_getElem (by rw [ints_len]; omega)))
  have ho0 : (w.alloc (.cells #[] 3)).ownsRow w.heap.size 3 1 (.slice (some ⟨w.heap.size, 0, none⟩) 0 0) 0 [] := own_empty _ _ rfl (Nat.le_refl _) rfl
  have HO := Lib.hid ho0
  clear ho0
  go_enter Try.func143, Try.ntmps143
  go_wp2_with (at_builtin; refine wpList_append_own _ rfl (.tmp 3) (.tmp 4) 23 rfl w.heap.size 3 i0 (.int .i64 0) 1 8 Try.underlying23 hi hz0 hz1 hz2 rfl (by omega) _ _ _ rfl HO.out ⟨b, off, none⟩ L.length c (ints L) rfl (by rw [ints_len]; omega) (fun j u hu => by rw [Addr.add_lit]; exact keep1 ((Below.refl _ _).alloc (Nat.le_refl _) _) (HC.out j u hu)) (ints_one_ L) (by unfold maxLen; omega) (by omega) (by simp) ?_; intro v' w1 ho1 hg1 _)
  go_ret
  rw [Nat.zero_add, List.nil_append] at ho1
  obtain ⟨A', c', rfl⟩ := own_form ho1
  exact ⟨A', c', rfl, ho1, ((Below.refl _ _).alloc (Nat.le_refl _) _).grown hg1 (by simp) (fun k hk => by have h9 : w.heap.size = k := Option.some.inj hk; omega)⟩

theorem set_grown (w : World) (g j : Nat) (v : Value) : w.grownBy (w.setCell ⟨g, j, none⟩ v) (some g) :=
  ⟨rfl, rfl, rfl, by simp, fun k _ hne => heap_setCell_other w ⟨g, j, none⟩ k v (fun e => hne (by rw [show k = g from e]))⟩
/-- A call hands back a transition in memory of its own; its places lie behind the rest. -/
def RetTr (w : World) (F T : List Sp) (n : Int) (P : List Int) (e : Ending) (w' : World) : Prop :=
  ∃ A c B d C f s, e = .returned (.agg #[.slice A F.length c, .slice B T.length d, .int .i64 n, .slice C P.length f]) ∧ Mem w' A (spots F) ∧ Mem w' B (spots T) ∧ F.length ≤ c ∧ T.length ≤ d ∧
    (∀ b o, A = some ⟨b, o, none⟩ → w.heap.size ≤ b ∧ b < s) ∧ (∀ b o, B = some ⟨b, o, none⟩ → w.heap.size ≤ b ∧ b < s) ∧ w'.ownsRow s 3 1 (.slice C P.length f) P.length (ints P) ∧ w.heap.size ≤ s ∧ Below w.heap.size w w'
theorem own_cap_ {w : World} {base : Nat} {e : TypeId} {size n c : Nat} {A : Option Addr} {xs : List Value} (h : w.ownsRow base e size (.slice A n c) n xs) : n ≤ c := by
  exact own_cap h

set_option maxHeartbeats 1600000 in
theorem asWith_any (A : Option Addr) (c : Nat) (F : List Sp) (B : Option Addr) (d : Nat) (T : List Sp) (n : Int) (C : Option Addr) (f : Nat) (P : List Int) (w : World) (hf : Mem w A (spots F)) (ht : Mem w B (spots T)) (hp : Mem w C (ints P)) (lf : F.length ≤ 1048576) (lt : T.length ≤ 1048576) (lp : P.length ≤ 1048576) (h0 : 0 < F.length) (h1 : 0 < T.length) (h2 : 0 < P.length) : Calls Try.prog 129 #[.slice A F.length c, .slice B T.length d, .int .i64 n, .slice C P.length f] w (RetTr w F T n P) := by
  go_enter Try.func129, Try.ntmps129
  go_wp2_with fail
  refine (chOwn2_any A c F _ (hf.below (by (repeat (first | exact Below.refl _ _ | assumption | (refine Below.alloc ?_ (by first | omega | (simp; done) | (simp; omega)) _) | (refine Below.setCell ?_ (by first | omega | (simp; done) | (simp; omega)) _) | (refine Below.drew ?_) | (refine Below.drewN ?_ _) | (refine Below.next (by assumption) ?_ (by first | omega | (simp; done) | (simp; omega))))))) lf h0).mono ?_
  rintro e w1 ⟨A1, c1, rfl, ho1, hq1⟩
  have hz1 := hq1.size
  simp at hz1
  go_wp2_with fail
  refine (chOwn2_any B d T _ (ht.below (by (repeat (first | exact Below.refl _ _ | assumption | (refine Below.alloc ?_ (by first | omega | (simp; done) | (simp; omega)) _) | (refine Below.setCell ?_ (by first | omega | (simp; done) | (simp; omega)) _) | (refine Below.drew ?_) | (refine Below.drewN ?_ _) | (refine Below.next (by assumption) ?_ (by first | omega | (simp; done) | (simp; omega))))))) lt h1).mono ?_
  rintro e w2 ⟨B1, d1, rfl, ho2, hq2⟩
  have hz2 := hq2.size
  go_wp2_with fail
  refine (l1Own_any C f P _ (hp.below (by (repeat (first | exact Below.refl _ _ | assumption | (refine Below.alloc ?_ (by first | omega | (simp; done) | (simp; omega)) _) | (refine Below.setCell ?_ (by first | omega | (simp; done) | (simp; omega)) _) | (refine Below.drew ?_) | (refine Below.drewN ?_ _) | (refine Below.next (by assumption) ?_ (by first | omega | (simp; done) | (simp; omega))))))) lp h2).mono ?_
  rintro e w3 ⟨C1, f1, rfl, ho3, hq3⟩
  have hz3 := hq3.size
  have hb3 : Below w.heap.size w w3 := by (repeat (first | exact Below.refl _ _ | assumption | (refine Below.alloc ?_ (by first | omega | (simp; done) | (simp; omega)) _) | (refine Below.setCell ?_ (by first | omega | (simp; done) | (simp; omega)) _) | (refine Below.drew ?_) | (refine Below.drewN ?_ _) | (refine Below.next (by assumption) ?_ (by first | omega | (simp; done) | (simp; omega)))))
  have gz1 : w.heap.size < w3.heap.size := by omega
  have hbA : Below (w.heap.size + 1) (w.alloc (.cells #[.slice none 0 0, .slice none 0 0, .int .i64 0, .slice none 0 0] 31)) w3 := ((hq1.mono (by simp)).trans (hq2.mono (by omega))).trans (hq3.mono (by omega))
  have z0 : w3.cell? ⟨w.heap.size, 0, none⟩ = some (.slice none 0 0) := (hbA.cell (by (try simp); (try omega))).trans (by simp [go_sem])
  have z1 : w3.cell? ⟨w.heap.size, 1, none⟩ = some (.slice none 0 0) := (hbA.cell (by (try simp); (try omega))).trans (by simp [go_sem])
  have z2 : w3.cell? ⟨w.heap.size, 2, none⟩ = some (.int .i64 0) := (hbA.cell (by (try simp); (try omega))).trans (by simp [go_sem])
  have z3 : w3.cell? ⟨w.heap.size, 3, none⟩ = some (.slice none 0 0) := (hbA.cell (by (try simp); (try omega))).trans (by simp [go_sem])
  have y0 : w3.frozen? ⟨w.heap.size, 0, none⟩ = false := (hbA.frozen (by (try dsimp only); omega)).trans (by simp [go_sem])
  have y1 : w3.frozen? ⟨w.heap.size, 1, none⟩ = false := (hbA.frozen (by (try dsimp only); omega)).trans (by simp [go_sem])
  have y2 : w3.frozen? ⟨w.heap.size, 2, none⟩ = false := (hbA.frozen (by (try dsimp only); omega)).trans (by simp [go_sem])
  have y3 : w3.frozen? ⟨w.heap.size, 3, none⟩ = false := (hbA.frozen (by (try dsimp only); omega)).trans (by simp [go_sem])
  go_wp2_with fail
  refine bodyPost_ret (v := .agg #[.slice A1 F.length c1, .slice B1 T.length d1, .int .i64 n, .slice C1 P.length f1]) (by simp [results, Try.results129, go_sem, z0, z1, z2, z3]) rfl ?_
  have hg := grown_trans (grown_trans (grown_trans (set_grown w3 w.heap.size 0 (.slice A1 F.length c1)) (set_grown _ w.heap.size 1 (.slice B1 T.length d1))) (set_grown _ w.heap.size 2 (.int .i64 n))) (set_grown _ w.heap.size 3 (.slice C1 P.length f1))
  have a1 : ∀ b o, A1 = some ⟨b, o, none⟩ → w.heap.size + 1 ≤ b ∧ b < w2.heap.size := fun b o h => by
    subst h
    have h5 := ho1.lt b rfl
    (try simp at h5)
    omega
  have a2 : ∀ b o, B1 = some ⟨b, o, none⟩ → w.heap.size + 1 ≤ b ∧ b < w2.heap.size := fun b o h => by
    subst h
    have h5 := ho2.lt b rfl
    omega
  refine ⟨A1, c1, B1, d1, C1, f1, w2.heap.size, rfl, mem_grown ((Mem.of_own ho1).below (Below.next hq3 hq2 (by omega))) hg (fun b o h => by have := a1 b o h; simp; omega), mem_grown ((Mem.of_own ho2).below hq3) hg (fun b o h => by have := a2 b o h; simp; omega), own_cap ho1, own_cap ho2, fun b o h => by have := a1 b o h; omega, fun b o h => by have := a2 b o h; omega, own_kept ho3 hg (fun k hk j hj => by have := (ho3.lt j hj).1; simp at hk; omega), by omega, below_grown hb3 hg (by omega) (fun k hk => by simp at hk; omega)⟩

set_option maxRecDepth 100000 in
set_option maxHeartbeats 3200000 in
theorem newTransition_any (A : Option Addr) (c : Nat) (F : List Sp) (B : Option Addr) (d : Nat) (T : List Sp) (n : Int) (C : Option Addr) (f : Nat) (P : List Int) (w : World) (hf : Mem w A (spots F)) (ht : Mem w B (spots T)) (hp : Mem w C (ints P)) (lf : F.length ≤ 1048576) (lt : T.length ≤ 1048576) (lp : P.length ≤ 1048576) (h0 : 0 < F.length) (h1 : 0 < T.length) (h2 : 0 < P.length) : Calls Try.prog 131 #[.slice A F.length c, .slice B T.length d, .int .i64 n, .slice C P.length f] w (RetTr w F T n P) := by
  obtain ⟨i0, hi, hi0, hi1, hi2⟩ := info_parts info_spot
  obtain ⟨b, off, rfl, hc⟩ := hf (by intro h; have := spots_len F; rw [h] at this; simp at this; omega)
  obtain ⟨b2, off2, rfl, hc2⟩ := ht (by intro h; have := spots_len T; rw [h] at this; simp at this; omega)
  have HC := Lib.hid hc
  have HC2 := Lib.hid hc2
  clear hc hc2
  have hbl : b < w.heap.size := World.block_lt_of_cell? w _ (HC.out 0 _ (List.getElem?_eq_getElem (by rw [spots_len]; omega)))
  have hbl2 : b2 < w.heap.size := World.block_lt_of_cell? w _ (HC2.out 0 _ (List.getElem?_eq_getElem (by rw [spots_len]; omega)))
  have ho0 : ((w.alloc (.cells #[.slice none 0 0, .slice none 0 0, .int .i64 0, .slice none 0 0] 31)).alloc (.cells #[] 73)).ownsRow (w.heap.size + 1) 73 2 (.slice (some ⟨w.heap.size + 1, 0, none⟩) 0 0) 0 [] := own_empty _ _ (by simp) (Nat.le_refl _) rfl
  have HO := Lib.hid ho0
  clear ho0
  go_enter Try.func131, Try.ntmps131
  go_wp2_with (first
    | ((at_builtin; refine wpList_append_own _ rfl (.tmp 9) (.tmp 10) 29 rfl (w.heap.size + 1) 73 i0 (.agg #[.int .i64 0, .int .i64 0]) 2 16 Try.underlying29 hi hi0 hi1 hi2 rfl (by omega) _ _ _ rfl HO.out ⟨b, off, none⟩ F.length _ (spots F) rfl (spots_len F) (fun j u hu => by rw [Addr.add_lit]; exact keep1 (((Below.refl _ _).alloc (Nat.le_refl _) _).alloc (by simp) _) (HC.out j u hu)) (spots_one_ F) (by unfold maxLen; omega) (by omega) (by first | omega | (simp; done) | (simp; omega)) ?_; intro v' w1 ho1 hg1 _; rw [Nat.zero_add, List.nil_append] at ho1); obtain ⟨A1, c1, rfl⟩ := own_form ho1; have hbA1 : Below (w.heap.size + 1) (w.alloc (.cells #[.slice none 0 0, .slice none 0 0, .int .i64 0, .slice none 0 0] 31)) w1 := ((Below.refl _ _).alloc (by simp) _).grown hg1 (by simp) (fun k hk => by have h9 : w.heap.size + 1 = k := Option.some.inj hk; omega); have hz1 := hbA1.size; simp at hz1; have hbw1 : Below w.heap.size w w1 := ((Below.refl _ _).alloc (Nat.le_refl _) _).trans (hbA1.mono (by omega)))
    | ((at_builtin; refine wpList_append_own _ rfl (.tmp 12) (.tmp 13) 29 rfl (w1.heap.size) 73 i0 (.agg #[.int .i64 0, .int .i64 0]) 2 16 Try.underlying29 hi hi0 hi1 hi2 rfl (by omega) _ _ _ rfl (own_empty _ _ rfl (Nat.le_refl _) rfl) ⟨b2, off2, none⟩ T.length _ (spots T) rfl (spots_len T) (fun j u hu => by rw [Addr.add_lit]; exact keep1 ((Below.refl _ _).alloc (Nat.le_refl _) _) (keep1 hbw1 (HC2.out j u hu))) (spots_one_ T) (by unfold maxLen; omega) (by omega) (by first | omega | (simp; done) | (simp; omega)) ?_; intro v' w2 ho2 hg2 _; rw [Nat.zero_add, List.nil_append] at ho2); obtain ⟨B1, d1, rfl⟩ := own_form ho2; have hq2 : Below w1.heap.size w1 w2 := ((Below.refl _ _).alloc (Nat.le_refl _) _).grown hg2 (by simp) (fun k hk => by have h9 : w1.heap.size = k := Option.some.inj hk; omega); have hz2 := hq2.size; have hbw2 : Below w.heap.size w w2 := Below.next hq2 hbw1 (by omega))
    | fail)
  refine (copyInts_any C f P _ (hp.below hbw2) lp h2).mono ?_
  rintro e w3 ⟨C1, f1, rfl, ho3, hq3⟩
  have hz3 := hq3.size
  have hb3 : Below w.heap.size w w3 := Below.next hq3 hbw2 (by omega)
  have gz1 : w.heap.size < w3.heap.size := by omega
  have hbA : Below (w.heap.size + 1) (w.alloc (.cells #[.slice none 0 0, .slice none 0 0, .int .i64 0, .slice none 0 0] 31)) w3 := (hbA1.trans (hq2.mono (by omega))).trans (hq3.mono (by omega))
  clear HO hg1 hg2
  have z0 : w3.cell? ⟨w.heap.size, 0, none⟩ = some (.slice none 0 0) := (hbA.cell (by (try simp); (try omega))).trans (by simp [go_sem])
  have z1 : w3.cell? ⟨w.heap.size, 1, none⟩ = some (.slice none 0 0) := (hbA.cell (by (try simp); (try omega))).trans (by simp [go_sem])
  have z2 : w3.cell? ⟨w.heap.size, 2, none⟩ = some (.int .i64 0) := (hbA.cell (by (try simp); (try omega))).trans (by simp [go_sem])
  have z3 : w3.cell? ⟨w.heap.size, 3, none⟩ = some (.slice none 0 0) := (hbA.cell (by (try simp); (try omega))).trans (by simp [go_sem])
  have y0 : w3.frozen? ⟨w.heap.size, 0, none⟩ = false := (hbA.frozen (by (try dsimp only); omega)).trans (by simp [go_sem])
  have y1 : w3.frozen? ⟨w.heap.size, 1, none⟩ = false := (hbA.frozen (by (try dsimp only); omega)).trans (by simp [go_sem])
  have y2 : w3.frozen? ⟨w.heap.size, 2, none⟩ = false := (hbA.frozen (by (try dsimp only); omega)).trans (by simp [go_sem])
  have y3 : w3.frozen? ⟨w.heap.size, 3, none⟩ = false := (hbA.frozen (by (try dsimp only); omega)).trans (by simp [go_sem])
  go_wp2_with fail
  refine bodyPost_ret (v := .agg #[.slice A1 F.length c1, .slice B1 T.length d1, .int .i64 n, .slice C1 P.length f1]) (by simp [results, Try.results131, go_sem, z0, z1, z2, z3]) rfl ?_
  have hg := grown_trans (grown_trans (grown_trans (set_grown w3 w.heap.size 0 (.slice A1 F.length c1)) (set_grown _ w.heap.size 1 (.slice B1 T.length d1))) (set_grown _ w.heap.size 2 (.int .i64 n))) (set_grown _ w.heap.size 3 (.slice C1 P.length f1))
  have a1 : ∀ b o, A1 = some ⟨b, o, none⟩ → w.heap.size + 1 ≤ b ∧ b < w2.heap.size := fun b o h => by
    subst h
    have h5 := ho1.lt b rfl
    (try simp at h5)
    omega
  have a2 : ∀ b o, B1 = some ⟨b, o, none⟩ → w.heap.size + 1 ≤ b ∧ b < w2.heap.size := fun b o h => by
    subst h
    have h5 := ho2.lt b rfl
    omega
  refine ⟨A1, c1, B1, d1, C1, f1, w2.heap.size, rfl, mem_grown ((Mem.of_own ho1).below (Below.next hq3 hq2 (by omega))) hg (fun b o h => by have := a1 b o h; simp; omega), mem_grown ((Mem.of_own ho2).below hq3) hg (fun b o h => by have := a2 b o h; simp; omega), own_cap ho1, own_cap ho2, fun b o h => by have := a1 b o h; omega, fun b o h => by have := a2 b o h; omega, own_kept ho3 hg (fun k hk j hj => by have := (ho3.lt j hj).1; simp at hk; omega), by omega, below_grown hb3 hg (by omega) (fun k hk => by simp at hk; omega)⟩

end Go.Proofs.Ytjnkkeaknaoghaa
