/-
  Contracts: who stands at a count of a repaired transition.
-/
import Derived.Test.YthehcjfljjfnmaaGreatMvs
import Derived.Test.YthehcjfljjfnmaaGreatTrl
import Derived.Test.YthehcjfljjfnmaaGreatBase
import Derived.Laws.StructEq
namespace Go.Proofs.YthehcjfljjfnmaaGreat
open Go.RowKit Go.Sort

def stB (m : List Mv) (D : List Int) (n a : Int) (k : Nat) : Bool := decide ((m.getD k ⟨⟨0, 0⟩, ⟨0, 0⟩, 0⟩).f = (m.getD k ⟨⟨0, 0⟩, ⟨0, 0⟩, 0⟩).t) || !inR a (D.getD k 0) (D.getD k 0 + n - 1)
def stTo (m : List Mv) (D : List Int) (n a : Int) : Nat → List Int
  | 0 => []
  | k + 1 => if stB m D n a k then stTo m D n a k ++ [(k : Int)] else stTo m D n a k
def saOk (F T : List Sp) (n : Int) (P D : List Int) (a : Int) : Bool := dlOk F T n P D && inR a 0 100
def stV (F T : List Sp) (n : Int) (P D : List Int) (a : Int) : List Int := if saOk F T n P D a then stTo (mvT F T n P) D n a P.length else []
theorem stTo_len (m : List Mv) (D : List Int) (n a : Int) : ∀ k, (stTo m D n a k).length ≤ k
  | 0 => by simp [stTo]
  | k + 1 => by
    have := stTo_len m D n a k
    rw [stTo]
    split
    · simp; omega
    · omega
theorem stV_le (F T : List Sp) (n : Int) (P D : List Int) (a : Int) : (stV F T n P D a).length ≤ P.length := by
  unfold stV; split
  · exact stTo_len _ _ _ _ _
  · simp
theorem stB_eq {m : List Mv} {D : List Int} {n a d : Int} {k : Nat} {v : Mv} (hm : m[k]? = some v) (hd : D[k]? = some d) : stB m D n a k = (decide (v.f = v.t) || !inR a d (d + n - 1)) := by
  simp only [stB, List.getD_eq_getElem?_getD, hm, hd, Option.getD_some]
theorem st_yes {m : List Mv} {D : List Int} {n a : Int} {k : Nat} (h : stB m D n a k = true) : stTo m D n a (k + 1) = stTo m D n a k ++ [(k : Int)] := by rw [stTo, h, if_pos rfl]
theorem st_no {m : List Mv} {D : List Int} {n a : Int} {k : Nat} (h : stB m D n a k = false) : stTo m D n a (k + 1) = stTo m D n a k := by rw [stTo, h, if_neg (by simp)]
theorem size_alloc_ (w : World) (o : Obj) : (w.alloc o).heap.size = w.heap.size + 1 := by simp
theorem mvT_c {F T : List Sp} {n : Int} {P : List Int} {k : Nat} {v : Mv} (h : (mvT F T n P)[k]? = some v) : v.c = n := by
  simp only [mvT, List.getElem?_map, Option.map_eq_some_iff] at h
  obtain ⟨i, _, rfl⟩ := h
  rfl
theorem spn {a b : Sp} (h : ¬ a = b) : (a.x == b.x) = false ∨ ((a.x == b.x) = true ∧ (a.y == b.y) = false) := by
  by_cases hx : a.x = b.x
  · refine .inr ⟨by simpa using hx, ?_⟩
    have : ¬ a.y = b.y := fun hy => h (by cases a; cases b; simp_all)
    simpa using this
  · exact .inl (by simpa using hx)

set_option maxRecDepth 100000 in
set_option maxHeartbeats 6400000 in
theorem spec_StandingAt_any (A : Option Addr) (c : Nat) (F : List Sp) (B : Option Addr) (d : Nat) (T : List Sp) (n : Int) (C : Option Addr) (f : Nat) (P : List Int) (E : Option Addr) (g : Nat) (D : List Int) (a : Int) (w : World) (hf : Mem w A (spots F)) (ht : Mem w B (spots T)) (hp : Mem w C (ints P)) (lf : F.length ≤ 1048576) (lt : T.length ≤ 1048576) (lp : P.length ≤ 1048576) (hfc : F.length ≤ c) (htc : T.length ≤ d) (hpc : P.length ≤ f) (hd : Mem w E (ints D)) (ld : D.length ≤ 1048576) (hdc : D.length ≤ g) : Calls Tryz.prog 17 #[.agg #[.slice A F.length c, .slice B T.length d, .int .i64 n, .slice C P.length f], .slice E D.length g, .int .i64 a] w (RetInts w (stV F T n P D a) (saOk F T n P D a)) := by
  obtain ⟨i0, hi, hz0, hz1, hz2⟩ := info_parts info_int
  have e0 : Hid (saOk F T n P D a = (dlOk F T n P D && inR a 0 100)) := Lib.hid rfl
  have e1 : Hid (saOk F T n P D a = true → stV F T n P D a = stTo (mvT F T n P) D n a P.length) := Lib.hid (fun h => by rw [stV, h, if_pos rfl])
  have e2 : Hid (saOk F T n P D a = false → stV F T n P D a = []) := Lib.hid (fun h => by rw [stV, h]; rfl)
  cases h1 : dlOk F T n P D
  all_goals
    have H1 := Lib.hid h1
    clear h1
    go_enter Tryz.func17, Tryz.ntmps17
    go_wp2_with fail
    refine (rpAsked_any A c F B d T n C f P E g D _ (hf.below (by (repeat (first | exact Below.refl _ _ | assumption | (refine Below.alloc ?_ (by first | omega | (simp; done) | (simp; omega)) _) | (refine Below.setCell ?_ (by first | omega | (simp; done) | (simp; omega)) _) | (refine Below.drew ?_) | (refine Below.drewN ?_ _) | (refine Below.next (by assumption) ?_ (by first | omega | (simp; done) | (simp; omega))))))) (ht.below (by (repeat (first | exact Below.refl _ _ | assumption | (refine Below.alloc ?_ (by first | omega | (simp; done) | (simp; omega)) _) | (refine Below.setCell ?_ (by first | omega | (simp; done) | (simp; omega)) _) | (refine Below.drew ?_) | (refine Below.drewN ?_ _) | (refine Below.next (by assumption) ?_ (by first | omega | (simp; done) | (simp; omega))))))) (hp.below (by (repeat (first | exact Below.refl _ _ | assumption | (refine Below.alloc ?_ (by first | omega | (simp; done) | (simp; omega)) _) | (refine Below.setCell ?_ (by first | omega | (simp; done) | (simp; omega)) _) | (refine Below.drew ?_) | (refine Below.drewN ?_ _) | (refine Below.next (by assumption) ?_ (by first | omega | (simp; done) | (simp; omega))))))) lf lt lp hfc htc hpc (hd.below (by (repeat (first | exact Below.refl _ _ | assumption | (refine Below.alloc ?_ (by first | omega | (simp; done) | (simp; omega)) _) | (refine Below.setCell ?_ (by first | omega | (simp; done) | (simp; omega)) _) | (refine Below.drew ?_) | (refine Below.drewN ?_ _) | (refine Below.next (by assumption) ?_ (by first | omega | (simp; done) | (simp; omega))))))) ld).mono ?_
    rintro e w1 ⟨he, hq⟩
    rw [H1.out] at he
    subst he
    have m1_0 : w1.cell? ⟨w.heap.size, 0, none⟩ = some (.slice A F.length c) := (hq.cell (by first | omega | (simp; done) | (simp; omega))).trans (by simp [go_sem])
    have m1_1 : w1.cell? ⟨w.heap.size, 1, none⟩ = some (.slice B T.length d) := (hq.cell (by first | omega | (simp; done) | (simp; omega))).trans (by simp [go_sem])
    have m1_2 : w1.cell? ⟨w.heap.size, 2, none⟩ = some (.int .i64 n) := (hq.cell (by first | omega | (simp; done) | (simp; omega))).trans (by simp [go_sem])
    have m1_3 : w1.cell? ⟨w.heap.size, 3, none⟩ = some (.slice C P.length f) := (hq.cell (by first | omega | (simp; done) | (simp; omega))).trans (by simp [go_sem])
    have gz1 : w.heap.size < w1.heap.size := World.block_lt_of_cell? _ _ m1_0
    have hb1 : Below w.heap.size w w1 := by (repeat (first | exact Below.refl _ _ | assumption | (refine Below.alloc ?_ (by first | omega | (simp; done) | (simp; omega)) _) | (refine Below.setCell ?_ (by first | omega | (simp; done) | (simp; omega)) _) | (refine Below.drew ?_) | (refine Below.drewN ?_ _) | (refine Below.next (by assumption) ?_ (by first | omega | (simp; done) | (simp; omega)))))
    clear hq
  · go_wp2_with fail
    go_ret2
    exact RetInts.none_ (e2.out (by rw [e0.out, H1.out]; rfl)) (by rw [e0.out, H1.out]; rfl) (by (repeat (first | exact Below.refl _ _ | assumption | (refine Below.alloc ?_ (by first | omega | (simp; done) | (simp; omega)) _) | (refine Below.setCell ?_ (by first | omega | (simp; done) | (simp; omega)) _) | (refine Below.drew ?_) | (refine Below.drewN ?_ _) | (refine Below.next (by assumption) ?_ (by first | omega | (simp; done) | (simp; omega))))))
  cases h2 : inR a 0 100
  all_goals
    have H2 := Lib.hid h2
    clear h2
    go_wp2_with (first | (go_at_call 45; refine (l1In_any _ _ _ _).mono ?_; rintro e w' ⟨he, rfl⟩; rw [H2.out] at he; subst he) | fail)
  · go_ret2
    exact RetInts.none_ (e2.out (by rw [e0.out, H1.out, H2.out]; rfl)) (by rw [e0.out, H1.out, H2.out]; rfl) (by (repeat (first | exact Below.refl _ _ | assumption | (refine Below.alloc ?_ (by first | omega | (simp; done) | (simp; omega)) _) | (refine Below.setCell ?_ (by first | omega | (simp; done) | (simp; omega)) _) | (refine Below.drew ?_) | (refine Below.drewN ?_ _) | (refine Below.next (by assumption) ?_ (by first | omega | (simp; done) | (simp; omega))))))
  have HDL := Lib.hid (dlOk_iff.1 H1.out)
  have HTR := Lib.hid (rpOk_iff.1 HDL.out.1).1
  have HOK := Lib.hid (show saOk F T n P D a = true by rw [e0.out, H1.out, H2.out]; rfl)
  obtain ⟨hn1, hn2⟩ := (trOk_iff.1 HTR.out).2.2.2.1
  obtain ⟨ha0, ha1⟩ := inR_iff.1 H2.out
  have HPL := Lib.hid (plOk_iff.1 (trOk_iff.1 HTR.out).2.2.2.2).2
  refine (asMoves_any A c F B d T n C f P _ (hf.below (by (repeat (first | exact Below.refl _ _ | assumption | (refine Below.alloc ?_ (by first | omega | (simp; done) | (simp; omega)) _) | (refine Below.setCell ?_ (by first | omega | (simp; done) | (simp; omega)) _) | (refine Below.drew ?_) | (refine Below.drewN ?_ _) | (refine Below.next (by assumption) ?_ (by first | omega | (simp; done) | (simp; omega))))))) (ht.below (by (repeat (first | exact Below.refl _ _ | assumption | (refine Below.alloc ?_ (by first | omega | (simp; done) | (simp; omega)) _) | (refine Below.setCell ?_ (by first | omega | (simp; done) | (simp; omega)) _) | (refine Below.drew ?_) | (refine Below.drewN ?_ _) | (refine Below.next (by assumption) ?_ (by first | omega | (simp; done) | (simp; omega))))))) (hp.below (by (repeat (first | exact Below.refl _ _ | assumption | (refine Below.alloc ?_ (by first | omega | (simp; done) | (simp; omega)) _) | (refine Below.setCell ?_ (by first | omega | (simp; done) | (simp; omega)) _) | (refine Below.drew ?_) | (refine Below.drewN ?_ _) | (refine Below.next (by assumption) ?_ (by first | omega | (simp; done) | (simp; omega))))))) lf lt lp hfc htc hpc HTR.out).mono ?_
  rintro e w3 ⟨A3, c3, rfl, ho3, hq3⟩
  rw [mvT_len] at ho3 ⊢
  have m3 : w3.cell? ⟨w.heap.size, 2, none⟩ = some (.int .i64 n) := keep1 hq3 m1_2
  have gz3 : w.heap.size < w3.heap.size := World.block_lt_of_cell? _ _ m3
  have hb3 : Below w.heap.size w w3 := by (repeat (first | exact Below.refl _ _ | assumption | (refine Below.alloc ?_ (by first | omega | (simp; done) | (simp; omega)) _) | (refine Below.setCell ?_ (by first | omega | (simp; done) | (simp; omega)) _) | (refine Below.drew ?_) | (refine Below.drewN ?_ _) | (refine Below.next (by assumption) ?_ (by first | omega | (simp; done) | (simp; omega)))))
  have HO := Lib.hid (show w3.ownsRow w1.heap.size 3 1 (.slice none 0 0) 0 (ints (stTo (mvT F T n P) D n a 0)) from World.ownsRow_nil _ _ _ _)
  have HF := Lib.hid (show Far w3 (.slice none 0 0) A3 (moves (mvT F T n P)) from Far.of_own ho3 (fun j hj => by simp [Value.ownBlock] at hj))
  have hbw : Below w1.heap.size w1 w3 := hq3
  clear m1_0 m1_1 m1_3 ho3 hq3
  go_wp2_with fail
  go_loopw [8, 9, 10, 23] (fun v _ _ i wr => ∃ k j : Nat, k ≤ P.length ∧ j ≤ k ∧ i = .int .i64 k ∧ wr.ownsRow w1.heap.size 3 1 v j (ints (stTo (mvT F T n P) D n a k)) ∧ Hid (j = (stTo (mvT F T n P) D n a k).length) ∧ Hid (Far wr v A3 (moves (mvT F T n P))) ∧ Below w1.heap.size w1 wr) (fun _ _ _ i _ => P.length - (intOf i).toNat)
  case atStart => exact ⟨0, 0, by omega, by omega, rfl, HO.out, Lib.hid rfl, HF, hbw⟩
  case round =>
    obtain ⟨k, j, hk, hj, rfl, hown, HJ, HF1, hbx⟩ := hrel
    have hsz := hbx.size
    have hb : Below w.heap.size w wr := Below.next hbx hb1 (by omega)
    have hml := Lib.hid (mvT_len F T n P)
    by_cases hlt : k < P.length
    · obtain ⟨v, hv⟩ := some_of_lt (L := mvT F T n P) (k := k) (by rw [hml.out]; exact hlt)
      obtain ⟨x, hx⟩ := some_of_lt (L := D) (k := k) (by have := HDL.out.2.1; have := HPL.out; omega)
      have hkD : k < D.length := (List.getElem?_eq_some_iff.1 hx).1
      obtain ⟨b5, o5, rfl, v1, v2, v3, v4, v5⟩ := HF1.out.mem.move hv
      obtain ⟨b4, o4, rfl, h4⟩ := (hd.below hb).int hx
      obtain ⟨hx0, hx1⟩ := inR_at HDL.out.2.2 hx
      have HB := Lib.hid (stB_eq (n := n) (a := a) hv hx)
      have HO2 := Lib.hid (own_below hown ((Below.refl _ _).alloc (Nat.le_refl _) (.cells #[.int .i64 v.f.x, .int .i64 v.f.y, .int .i64 v.t.x, .int .i64 v.t.y, .int .i64 n] 26)))
      have HF2 := Lib.hid (HF1.out.below (((Below.refl wr.heap.size wr)).alloc (Nat.le_refl _) (.cells #[.int .i64 v.f.x, .int .i64 v.f.y, .int .i64 v.t.x, .int .i64 v.t.y, .int .i64 n] 26)))
      have m2 : wr.cell? ⟨w.heap.size, 2, none⟩ = some (.int .i64 n) := keep1 hbx m1_2
      have l4 : b4 < wr.heap.size := World.block_lt_of_cell? wr _ h4
      have l5 : w.heap.size < wr.heap.size := by omega
      have hw1 : IntKind.i64.wrap (x + n) = x + n := IntWalk.i64_in _ (by omega)
      have hw2 : IntKind.i64.wrap (x + n - 1) = x + n - 1 := IntWalk.i64_in _ (by omega)
      have hvc := mvT_c hv
      have k0 : ∀ dd os, (grow (redrawn (wr.alloc (.cells #[.int .i64 v.f.x, .int .i64 v.f.y, .int .i64 v.t.x, .int .i64 v.t.y, .int .i64 n] 26)) dd) os).cell? ⟨wr.heap.size, 0, none⟩ = some (.int .i64 v.f.x) := cell_regrown (by simp [go_sem])
      have k1 : ∀ dd os, (grow (redrawn (wr.alloc (.cells #[.int .i64 v.f.x, .int .i64 v.f.y, .int .i64 v.t.x, .int .i64 v.t.y, .int .i64 n] 26)) dd) os).cell? ⟨wr.heap.size, 1, none⟩ = some (.int .i64 v.f.y) := cell_regrown (by simp [go_sem])
      have k2 : ∀ dd os, (grow (redrawn (wr.alloc (.cells #[.int .i64 v.f.x, .int .i64 v.f.y, .int .i64 v.t.x, .int .i64 v.t.y, .int .i64 n] 26)) dd) os).cell? ⟨wr.heap.size, 2, none⟩ = some (.int .i64 v.t.x) := cell_regrown (by simp [go_sem])
      have k3 : ∀ dd os, (grow (redrawn (wr.alloc (.cells #[.int .i64 v.f.x, .int .i64 v.f.y, .int .i64 v.t.x, .int .i64 v.t.y, .int .i64 n] 26)) dd) os).cell? ⟨wr.heap.size, 3, none⟩ = some (.int .i64 v.t.y) := cell_regrown (by simp [go_sem])
      have k4 : ∀ dd os, (grow (redrawn (wr.alloc (.cells #[.int .i64 v.f.x, .int .i64 v.f.y, .int .i64 v.t.x, .int .i64 v.t.y, .int .i64 n] 26)) dd) os).cell? ⟨wr.heap.size, 4, none⟩ = some (.int .i64 n) := cell_regrown (by simp [go_sem, hvc])
      have k5 : ∀ dd os, (grow (redrawn (wr.alloc (.cells #[.int .i64 v.f.x, .int .i64 v.f.y, .int .i64 v.t.x, .int .i64 v.t.y, .int .i64 n] 26)) dd) os).cell? ⟨w.heap.size, 2, none⟩ = some (.int .i64 n) := cell_regrown (keep1 ((Below.refl _ _).alloc (Nat.le_refl _) _) m2)
      have k6 : ∀ dd os, (grow (redrawn (wr.alloc (.cells #[.int .i64 v.f.x, .int .i64 v.f.y, .int .i64 v.t.x, .int .i64 v.t.y, .int .i64 n] 26)) dd) os).cell? ⟨b4, o4 + k, none⟩ = some (.int .i64 x) := cell_regrown (keep1 ((Below.refl _ _).alloc (Nat.le_refl _) _) h4)
      clear hv hx hown
      by_cases hE : v.f = v.t
      · have HE := Lib.hid hE
        have q5 : (v.f.x == v.t.x) = true := by rw [hE]; simp
        have q6 : (v.f.y == v.t.y) = true := by rw [hE]; simp
        clear hE
        have HY := Lib.hid (show stB (mvT F T n P) D n a k = true by rw [HB.out]; simp [HE.out])
        go_wp2_with fail
        refine wp_region_quiet_below (by kernel_rfl) (by kernel_rfl) ?_
        repeat (first | go_big_quiet_step (fail) | quiet_step (fail))
        refine wpQuiet_nil ?_
        intro _ hw'
        obtain ⟨⟨dq, osq⟩, hw''⟩ := hw'
        subst hw''
        have hb5 := below_regrown (wr.alloc (.cells #[.int .i64 v.f.x, .int .i64 v.f.y, .int .i64 v.t.x, .int .i64 v.t.y, .int .i64 n] 26)) dq osq
        have HO3 := Lib.hid (own_below HO2.out hb5)
        have HF3 := Lib.hid (HF2.out.below hb5)
        have hz5 : wr.heap.size + 1 ≤ (grow (redrawn (wr.alloc (.cells #[.int .i64 v.f.x, .int .i64 v.f.y, .int .i64 v.t.x, .int .i64 v.t.y, .int .i64 n] 26)) dq) osq).heap.size := by have h := hb5.size; rwa [size_alloc_] at h
        have hb6 : Below w1.heap.size wr (grow (redrawn (wr.alloc (.cells #[.int .i64 v.f.x, .int .i64 v.f.y, .int .i64 v.t.x, .int .i64 v.t.y, .int .i64 n] 26)) dq) osq) := Below.next hb5 ((Below.refl _ _).alloc (by omega) _) (by simp; omega)
        clear hb5 k0 k1 k2 k3 k4 k5 k6
        generalize grow (redrawn (wr.alloc (.cells #[.int .i64 v.f.x, .int .i64 v.f.y, .int .i64 v.t.x, .int .i64 v.t.y, .int .i64 n] 26)) dq) osq = W2 at *
        go_wp2_with (at_builtin; refine wpList_append_far _ rfl (.tmp 50) (.tmp 52) 32 rfl w1.heap.size 3 i0 (.int .i64 0) 1 8 Tryz.underlying32 hi hz0 hz1 hz2 rfl (by omega) _ _ _ rfl HO3.out _ _ _ rfl rfl rfl (by omega) (by omega) (by first | omega | (simp; omega)) ?_; intro v' w2 hown' hb2 hfar')
        go_roundw
        case rel =>
          have e3 := st_yes HY.out
          exact ⟨k + 1, j + 1, by omega, by omega, by go_num, by rw [e3, ints_snoc]; exact hown', Lib.hid (by rw [e3, List.length_append, ← HJ.out]; rfl), Lib.hid (hfar' _ _ HF3.out), (hbx.trans hb6).trans hb2⟩
        case measure => simp [intOf]; omega
      · have HE := Lib.hid hE
        cases hI : inR a x (x + n - 1)
        all_goals
          have HI := Lib.hid hI
          clear hI
        · rcases spn hE with q5 | ⟨q5, q6⟩
          all_goals
            clear hE
            have C1 := Lib.hid (show ∀ dd os, Calls Tryz.prog 45 #[.int .i64 a, .int .i64 x, .int .i64 (x + n - 1)] (grow (redrawn (wr.alloc (.cells #[.int .i64 v.f.x, .int .i64 v.f.y, .int .i64 v.t.x, .int .i64 v.t.y, .int .i64 n] 26)) dd) os) (fun e w'' => e = .returned (.bool false) ∧ ∃ p : Regrown, w'' = grow (redrawn (wr.alloc (.cells #[.int .i64 v.f.x, .int .i64 v.f.y, .int .i64 v.t.x, .int .i64 v.t.y, .int .i64 n] 26)) p.d) p.os) from fun dd os => Calls.regrown_of ((l1In_any a x (x + n - 1) _).mono (by rintro e w' ⟨he, rfl⟩; rw [HI.out] at he; exact ⟨he, Below.refl _ _⟩)))
            have HY := Lib.hid (show stB (mvT F T n P) D n a k = true by rw [HB.out]; simp [HI.out])
            go_wp2_with fail
            refine wp_region_quiet_below (by kernel_rfl) (by kernel_rfl) ?_
            repeat (first | go_big_quiet_step (with_reducible exact C1.out _ _) | quiet_step (with_reducible exact C1.out _ _))
            refine wpQuiet_nil ?_
            intro _ hw'
            obtain ⟨⟨dq, osq⟩, hw''⟩ := hw'
            subst hw''
            have hb5 := below_regrown (wr.alloc (.cells #[.int .i64 v.f.x, .int .i64 v.f.y, .int .i64 v.t.x, .int .i64 v.t.y, .int .i64 n] 26)) dq osq
            have HO3 := Lib.hid (own_below HO2.out hb5)
            have HF3 := Lib.hid (HF2.out.below hb5)
            have hz5 : wr.heap.size + 1 ≤ (grow (redrawn (wr.alloc (.cells #[.int .i64 v.f.x, .int .i64 v.f.y, .int .i64 v.t.x, .int .i64 v.t.y, .int .i64 n] 26)) dq) osq).heap.size := by have h := hb5.size; rwa [size_alloc_] at h
            have hb6 : Below w1.heap.size wr (grow (redrawn (wr.alloc (.cells #[.int .i64 v.f.x, .int .i64 v.f.y, .int .i64 v.t.x, .int .i64 v.t.y, .int .i64 n] 26)) dq) osq) := Below.next hb5 ((Below.refl _ _).alloc (by omega) _) (by simp; omega)
            clear hb5 k0 k1 k2 k3 k4 k5 k6
            generalize grow (redrawn (wr.alloc (.cells #[.int .i64 v.f.x, .int .i64 v.f.y, .int .i64 v.t.x, .int .i64 v.t.y, .int .i64 n] 26)) dq) osq = W2 at *
            go_wp2_with (at_builtin; refine wpList_append_far _ rfl (.tmp 50) (.tmp 52) 32 rfl w1.heap.size 3 i0 (.int .i64 0) 1 8 Tryz.underlying32 hi hz0 hz1 hz2 rfl (by omega) _ _ _ rfl HO3.out _ _ _ rfl rfl rfl (by omega) (by omega) (by first | omega | (simp; omega)) ?_; intro v' w2 hown' hb2 hfar')
            go_roundw
            case rel =>
              have e3 := st_yes HY.out
              exact ⟨k + 1, j + 1, by omega, by omega, by go_num, by rw [e3, ints_snoc]; exact hown', Lib.hid (by rw [e3, List.length_append, ← HJ.out]; rfl), Lib.hid (hfar' _ _ HF3.out), (hbx.trans hb6).trans hb2⟩
            case measure => simp [intOf]; omega
        · rcases spn hE with q5 | ⟨q5, q6⟩
          all_goals
            clear hE
            have C1 := Lib.hid (show ∀ dd os, Calls Tryz.prog 45 #[.int .i64 a, .int .i64 x, .int .i64 (x + n - 1)] (grow (redrawn (wr.alloc (.cells #[.int .i64 v.f.x, .int .i64 v.f.y, .int .i64 v.t.x, .int .i64 v.t.y, .int .i64 n] 26)) dd) os) (fun e w'' => e = .returned (.bool true) ∧ ∃ p : Regrown, w'' = grow (redrawn (wr.alloc (.cells #[.int .i64 v.f.x, .int .i64 v.f.y, .int .i64 v.t.x, .int .i64 v.t.y, .int .i64 n] 26)) p.d) p.os) from fun dd os => Calls.regrown_of ((l1In_any a x (x + n - 1) _).mono (by rintro e w' ⟨he, rfl⟩; rw [HI.out] at he; exact ⟨he, Below.refl _ _⟩)))
            have HY := Lib.hid (show stB (mvT F T n P) D n a k = false by rw [HB.out]; simp [HI.out, HE.out])
            go_wp2_with fail
            refine wp_region_quiet_below (by kernel_rfl) (by kernel_rfl) ?_
            repeat (first | go_big_quiet_step (with_reducible exact C1.out _ _) | quiet_step (with_reducible exact C1.out _ _))
            refine wpQuiet_nil ?_
            intro _ hw'
            obtain ⟨⟨dq, osq⟩, hw''⟩ := hw'
            subst hw''
            have hb5 := below_regrown (wr.alloc (.cells #[.int .i64 v.f.x, .int .i64 v.f.y, .int .i64 v.t.x, .int .i64 v.t.y, .int .i64 n] 26)) dq osq
            have HO3 := Lib.hid (own_below HO2.out hb5)
            have HF3 := Lib.hid (HF2.out.below hb5)
            have hz5 : wr.heap.size + 1 ≤ (grow (redrawn (wr.alloc (.cells #[.int .i64 v.f.x, .int .i64 v.f.y, .int .i64 v.t.x, .int .i64 v.t.y, .int .i64 n] 26)) dq) osq).heap.size := by have h := hb5.size; rwa [size_alloc_] at h
            have hb6 : Below w1.heap.size wr (grow (redrawn (wr.alloc (.cells #[.int .i64 v.f.x, .int .i64 v.f.y, .int .i64 v.t.x, .int .i64 v.t.y, .int .i64 n] 26)) dq) osq) := Below.next hb5 ((Below.refl _ _).alloc (by omega) _) (by simp; omega)
            clear hb5 k0 k1 k2 k3 k4 k5 k6
            generalize grow (redrawn (wr.alloc (.cells #[.int .i64 v.f.x, .int .i64 v.f.y, .int .i64 v.t.x, .int .i64 v.t.y, .int .i64 n] 26)) dq) osq = W2 at *
            go_wp2_with fail
            go_roundw
            case rel =>
              have e3 := st_no HY.out
              exact ⟨k + 1, j, by omega, by omega, by go_num, by rw [e3]; exact HO3.out, Lib.hid (by rw [e3]; exact HJ.out), HF3, hbx.trans hb6⟩
            case measure => simp [intOf]; omega
    · go_wp2
      go_ret2
      have e3 : k = P.length := by omega
      subst e3
      exact RetInts.some_ HOK.out (e1.out HOK.out) hown HJ.out (by omega) hb


set_option maxRecDepth 100000 in
set_option maxHeartbeats 6400000 in
theorem impl_StandingAt_any (A : Option Addr) (c : Nat) (F : List Sp) (B : Option Addr) (d : Nat) (T : List Sp) (n : Int) (C : Option Addr) (f : Nat) (P : List Int) (E : Option Addr) (g : Nat) (D : List Int) (a : Int) (w : World) (hf : Mem w A (spots F)) (ht : Mem w B (spots T)) (hp : Mem w C (ints P)) (lf : F.length ≤ 1048576) (lt : T.length ≤ 1048576) (lp : P.length ≤ 1048576) (hfc : F.length ≤ c) (htc : T.length ≤ d) (hpc : P.length ≤ f) (hd : Mem w E (ints D)) (ld : D.length ≤ 1048576) (hdc : D.length ≤ g) : Calls Tryz.prog 16 #[.agg #[.slice A F.length c, .slice B T.length d, .int .i64 n, .slice C P.length f], .slice E D.length g, .int .i64 a] w (RetInts w (stV F T n P D a) (saOk F T n P D a)) := by
  obtain ⟨i0, hi, hz0, hz1, hz2⟩ := info_parts info_int
  have e0 : Hid (saOk F T n P D a = (dlOk F T n P D && inR a 0 100)) := Lib.hid rfl
  have e1 : Hid (saOk F T n P D a = true → stV F T n P D a = stTo (mvT F T n P) D n a P.length) := Lib.hid (fun h => by rw [stV, h, if_pos rfl])
  have e2 : Hid (saOk F T n P D a = false → stV F T n P D a = []) := Lib.hid (fun h => by rw [stV, h]; rfl)
  cases h1 : dlOk F T n P D
  all_goals
    have H1 := Lib.hid h1
    clear h1
    go_enter Tryz.func16, Tryz.ntmps16
    go_wp2_with fail
    refine (areDelays_any A c F B d T n C f P E g D _ (hf.below (by (repeat (first | exact Below.refl _ _ | assumption | (refine Below.alloc ?_ (by first | omega | (simp; done) | (simp; omega)) _) | (refine Below.setCell ?_ (by first | omega | (simp; done) | (simp; omega)) _) | (refine Below.drew ?_) | (refine Below.drewN ?_ _) | (refine Below.next (by assumption) ?_ (by first | omega | (simp; done) | (simp; omega))))))) (ht.below (by (repeat (first | exact Below.refl _ _ | assumption | (refine Below.alloc ?_ (by first | omega | (simp; done) | (simp; omega)) _) | (refine Below.setCell ?_ (by first | omega | (simp; done) | (simp; omega)) _) | (refine Below.drew ?_) | (refine Below.drewN ?_ _) | (refine Below.next (by assumption) ?_ (by first | omega | (simp; done) | (simp; omega))))))) (hp.below (by (repeat (first | exact Below.refl _ _ | assumption | (refine Below.alloc ?_ (by first | omega | (simp; done) | (simp; omega)) _) | (refine Below.setCell ?_ (by first | omega | (simp; done) | (simp; omega)) _) | (refine Below.drew ?_) | (refine Below.drewN ?_ _) | (refine Below.next (by assumption) ?_ (by first | omega | (simp; done) | (simp; omega))))))) lf lt lp hfc htc hpc (hd.below (by (repeat (first | exact Below.refl _ _ | assumption | (refine Below.alloc ?_ (by first | omega | (simp; done) | (simp; omega)) _) | (refine Below.setCell ?_ (by first | omega | (simp; done) | (simp; omega)) _) | (refine Below.drew ?_) | (refine Below.drewN ?_ _) | (refine Below.next (by assumption) ?_ (by first | omega | (simp; done) | (simp; omega))))))) ld).mono ?_
    rintro e w1 ⟨he, hq⟩
    rw [H1.out] at he
    subst he
    have m1_0 : w1.cell? ⟨w.heap.size, 0, none⟩ = some (.slice A F.length c) := (hq.cell (by first | omega | (simp; done) | (simp; omega))).trans (by simp [go_sem])
    have m1_1 : w1.cell? ⟨w.heap.size, 1, none⟩ = some (.slice B T.length d) := (hq.cell (by first | omega | (simp; done) | (simp; omega))).trans (by simp [go_sem])
    have m1_2 : w1.cell? ⟨w.heap.size, 2, none⟩ = some (.int .i64 n) := (hq.cell (by first | omega | (simp; done) | (simp; omega))).trans (by simp [go_sem])
    have m1_3 : w1.cell? ⟨w.heap.size, 3, none⟩ = some (.slice C P.length f) := (hq.cell (by first | omega | (simp; done) | (simp; omega))).trans (by simp [go_sem])
    have gz1 : w.heap.size < w1.heap.size := World.block_lt_of_cell? _ _ m1_0
    have hb1 : Below w.heap.size w w1 := by (repeat (first | exact Below.refl _ _ | assumption | (refine Below.alloc ?_ (by first | omega | (simp; done) | (simp; omega)) _) | (refine Below.setCell ?_ (by first | omega | (simp; done) | (simp; omega)) _) | (refine Below.drew ?_) | (refine Below.drewN ?_ _) | (refine Below.next (by assumption) ?_ (by first | omega | (simp; done) | (simp; omega)))))
    clear hq
  · go_wp2_with fail
    go_ret2
    exact RetInts.none_ (e2.out (by rw [e0.out, H1.out]; rfl)) (by rw [e0.out, H1.out]; rfl) (by (repeat (first | exact Below.refl _ _ | assumption | (refine Below.alloc ?_ (by first | omega | (simp; done) | (simp; omega)) _) | (refine Below.setCell ?_ (by first | omega | (simp; done) | (simp; omega)) _) | (refine Below.drew ?_) | (refine Below.drewN ?_ _) | (refine Below.next (by assumption) ?_ (by first | omega | (simp; done) | (simp; omega))))))
  cases h2 : inR a 0 100
  all_goals
    have H2 := Lib.hid h2
    clear h2
    go_wp2_with (first | (go_at_call 43; refine (within_any _ _ _ _).mono ?_; rintro e w' ⟨he, rfl⟩; rw [H2.out] at he; subst he) | fail)
  · go_ret2
    exact RetInts.none_ (e2.out (by rw [e0.out, H1.out, H2.out]; rfl)) (by rw [e0.out, H1.out, H2.out]; rfl) (by (repeat (first | exact Below.refl _ _ | assumption | (refine Below.alloc ?_ (by first | omega | (simp; done) | (simp; omega)) _) | (refine Below.setCell ?_ (by first | omega | (simp; done) | (simp; omega)) _) | (refine Below.drew ?_) | (refine Below.drewN ?_ _) | (refine Below.next (by assumption) ?_ (by first | omega | (simp; done) | (simp; omega))))))
  have HDL := Lib.hid (dlOk_iff.1 H1.out)
  have HTR := Lib.hid (rpOk_iff.1 HDL.out.1).1
  have HOK := Lib.hid (show saOk F T n P D a = true by rw [e0.out, H1.out, H2.out]; rfl)
  obtain ⟨hn1, hn2⟩ := (trOk_iff.1 HTR.out).2.2.2.1
  obtain ⟨ha0, ha1⟩ := inR_iff.1 H2.out
  have HPL := Lib.hid (plOk_iff.1 (trOk_iff.1 HTR.out).2.2.2.2).2
  refine (movesOf_any A c F B d T n C f P _ (hf.below (by (repeat (first | exact Below.refl _ _ | assumption | (refine Below.alloc ?_ (by first | omega | (simp; done) | (simp; omega)) _) | (refine Below.setCell ?_ (by first | omega | (simp; done) | (simp; omega)) _) | (refine Below.drew ?_) | (refine Below.drewN ?_ _) | (refine Below.next (by assumption) ?_ (by first | omega | (simp; done) | (simp; omega))))))) (ht.below (by (repeat (first | exact Below.refl _ _ | assumption | (refine Below.alloc ?_ (by first | omega | (simp; done) | (simp; omega)) _) | (refine Below.setCell ?_ (by first | omega | (simp; done) | (simp; omega)) _) | (refine Below.drew ?_) | (refine Below.drewN ?_ _) | (refine Below.next (by assumption) ?_ (by first | omega | (simp; done) | (simp; omega))))))) (hp.below (by (repeat (first | exact Below.refl _ _ | assumption | (refine Below.alloc ?_ (by first | omega | (simp; done) | (simp; omega)) _) | (refine Below.setCell ?_ (by first | omega | (simp; done) | (simp; omega)) _) | (refine Below.drew ?_) | (refine Below.drewN ?_ _) | (refine Below.next (by assumption) ?_ (by first | omega | (simp; done) | (simp; omega))))))) lf lt lp hfc htc hpc HTR.out).mono ?_
  rintro e w3 ⟨A3, c3, rfl, ho3, hq3⟩
  rw [mvT_len] at ho3 ⊢
  have m3 : w3.cell? ⟨w.heap.size, 2, none⟩ = some (.int .i64 n) := keep1 hq3 (keep1 ((Below.refl _ _).alloc (Nat.le_refl _) _) m1_2)
  have gz3 : w.heap.size < w3.heap.size := World.block_lt_of_cell? _ _ m3
  have hb3 : Below w.heap.size w w3 := by (repeat (first | exact Below.refl _ _ | assumption | (refine Below.alloc ?_ (by first | omega | (simp; done) | (simp; omega)) _) | (refine Below.setCell ?_ (by first | omega | (simp; done) | (simp; omega)) _) | (refine Below.drew ?_) | (refine Below.drewN ?_ _) | (refine Below.next (by assumption) ?_ (by first | omega | (simp; done) | (simp; omega)))))
  have HO := Lib.hid (show w3.ownsRow w1.heap.size 3 1 (.slice (some ⟨w1.heap.size, 0, none⟩) 0 0) 0 (ints (stTo (mvT F T n P) D n a 0)) from own_below (own_empty _ _ rfl (Nat.le_refl _) rfl) hq3)
  have HF := Lib.hid (show Far w3 (.slice (some ⟨w1.heap.size, 0, none⟩) 0 0) A3 (moves (mvT F T n P)) from Far.of_own ho3 (fun j hj => by simp [Value.ownBlock] at hj; subst hj; simp))
  have hbw : Below w1.heap.size w1 w3 := Below.next hq3 ((Below.refl _ _).alloc (Nat.le_refl _) _) (by simp)
  clear m1_0 m1_1 m1_3 ho3 hq3
  go_wp2_with fail
  go_loopw [8, 9, 10, 24] (fun v _ _ i wr => ∃ k j : Nat, k ≤ P.length ∧ j ≤ k ∧ i = .int .i64 k ∧ wr.ownsRow w1.heap.size 3 1 v j (ints (stTo (mvT F T n P) D n a k)) ∧ Hid (j = (stTo (mvT F T n P) D n a k).length) ∧ Hid (Far wr v A3 (moves (mvT F T n P))) ∧ Below w1.heap.size w1 wr) (fun _ _ _ i _ => P.length - (intOf i).toNat)
  case atStart => exact ⟨0, 0, by omega, by omega, rfl, HO.out, Lib.hid rfl, HF, hbw⟩
  case round =>
    obtain ⟨k, j, hk, hj, rfl, hown, HJ, HF1, hbx⟩ := hrel
    have hsz := hbx.size
    have hb : Below w.heap.size w wr := Below.next hbx hb1 (by omega)
    have hml := Lib.hid (mvT_len F T n P)
    by_cases hlt : k < P.length
    · obtain ⟨v, hv⟩ := some_of_lt (L := mvT F T n P) (k := k) (by rw [hml.out]; exact hlt)
      obtain ⟨x, hx⟩ := some_of_lt (L := D) (k := k) (by have := HDL.out.2.1; have := HPL.out; omega)
      have hkD : k < D.length := (List.getElem?_eq_some_iff.1 hx).1
      obtain ⟨b5, o5, rfl, v1, v2, v3, v4, v5⟩ := HF1.out.mem.move hv
      obtain ⟨b4, o4, rfl, h4⟩ := (hd.below hb).int hx
      obtain ⟨hx0, hx1⟩ := inR_at HDL.out.2.2 hx
      have HB := Lib.hid (stB_eq (n := n) (a := a) hv hx)
      have HO2 := Lib.hid (own_below hown ((Below.refl _ _).alloc (Nat.le_refl _) (.cells #[.int .i64 v.f.x, .int .i64 v.f.y, .int .i64 v.t.x, .int .i64 v.t.y, .int .i64 n] 26)))
      have HF2 := Lib.hid (HF1.out.below (((Below.refl wr.heap.size wr)).alloc (Nat.le_refl _) (.cells #[.int .i64 v.f.x, .int .i64 v.f.y, .int .i64 v.t.x, .int .i64 v.t.y, .int .i64 n] 26)))
      have m2 : wr.cell? ⟨w.heap.size, 2, none⟩ = some (.int .i64 n) := keep1 hbx m1_2
      have l4 : b4 < wr.heap.size := World.block_lt_of_cell? wr _ h4
      have l5 : w.heap.size < wr.heap.size := by omega
      have hw1 : IntKind.i64.wrap (x + n) = x + n := IntWalk.i64_in _ (by omega)
      have hw2 : IntKind.i64.wrap (x + n - 1) = x + n - 1 := IntWalk.i64_in _ (by omega)
      have hvc := mvT_c hv
      have k0 : ∀ dd os, (grow (redrawn (wr.alloc (.cells #[.int .i64 v.f.x, .int .i64 v.f.y, .int .i64 v.t.x, .int .i64 v.t.y, .int .i64 n] 26)) dd) os).cell? ⟨wr.heap.size, 0, none⟩ = some (.int .i64 v.f.x) := cell_regrown (by simp [go_sem])
      have k1 : ∀ dd os, (grow (redrawn (wr.alloc (.cells #[.int .i64 v.f.x, .int .i64 v.f.y, .int .i64 v.t.x, .int .i64 v.t.y, .int .i64 n] 26)) dd) os).cell? ⟨wr.heap.size, 1, none⟩ = some (.int .i64 v.f.y) := cell_regrown (by simp [go_sem])
      have k2 : ∀ dd os, (grow (redrawn (wr.alloc (.cells #[.int .i64 v.f.x, .int .i64 v.f.y, .int .i64 v.t.x, .int .i64 v.t.y, .int .i64 n] 26)) dd) os).cell? ⟨wr.heap.size, 2, none⟩ = some (.int .i64 v.t.x) := cell_regrown (by simp [go_sem])
      have k3 : ∀ dd os, (grow (redrawn (wr.alloc (.cells #[.int .i64 v.f.x, .int .i64 v.f.y, .int .i64 v.t.x, .int .i64 v.t.y, .int .i64 n] 26)) dd) os).cell? ⟨wr.heap.size, 3, none⟩ = some (.int .i64 v.t.y) := cell_regrown (by simp [go_sem])
      have k4 : ∀ dd os, (grow (redrawn (wr.alloc (.cells #[.int .i64 v.f.x, .int .i64 v.f.y, .int .i64 v.t.x, .int .i64 v.t.y, .int .i64 n] 26)) dd) os).cell? ⟨wr.heap.size, 4, none⟩ = some (.int .i64 n) := cell_regrown (by simp [go_sem, hvc])
      have k5 : ∀ dd os, (grow (redrawn (wr.alloc (.cells #[.int .i64 v.f.x, .int .i64 v.f.y, .int .i64 v.t.x, .int .i64 v.t.y, .int .i64 n] 26)) dd) os).cell? ⟨w.heap.size, 2, none⟩ = some (.int .i64 n) := cell_regrown (keep1 ((Below.refl _ _).alloc (Nat.le_refl _) _) m2)
      have k6 : ∀ dd os, (grow (redrawn (wr.alloc (.cells #[.int .i64 v.f.x, .int .i64 v.f.y, .int .i64 v.t.x, .int .i64 v.t.y, .int .i64 n] 26)) dd) os).cell? ⟨b4, o4 + k, none⟩ = some (.int .i64 x) := cell_regrown (keep1 ((Below.refl _ _).alloc (Nat.le_refl _) _) h4)
      clear hv hx hown
      by_cases h5 : a < x
      · have HI := Lib.hid (show inR a x (x + n - 1) = false from inR_no.2 (.inl h5))
        have HY := Lib.hid (show stB (mvT F T n P) D n a k = true by rw [HB.out]; simp [HI.out])
        go_wp2_with fail
        refine wp_region_quiet_below (by kernel_rfl) (by kernel_rfl) ?_
        repeat (first | go_big_quiet_step (fail) | quiet_step (fail))
        refine wpQuiet_nil ?_
        intro _ hw'
        obtain ⟨⟨dq, osq⟩, hw''⟩ := hw'
        subst hw''
        have hb5 := below_regrown (wr.alloc (.cells #[.int .i64 v.f.x, .int .i64 v.f.y, .int .i64 v.t.x, .int .i64 v.t.y, .int .i64 n] 26)) dq osq
        have HO3 := Lib.hid (own_below HO2.out hb5)
        have HF3 := Lib.hid (HF2.out.below hb5)
        have hz5 : wr.heap.size + 1 ≤ (grow (redrawn (wr.alloc (.cells #[.int .i64 v.f.x, .int .i64 v.f.y, .int .i64 v.t.x, .int .i64 v.t.y, .int .i64 n] 26)) dq) osq).heap.size := by have h := hb5.size; rwa [size_alloc_] at h
        have hb6 : Below w1.heap.size wr (grow (redrawn (wr.alloc (.cells #[.int .i64 v.f.x, .int .i64 v.f.y, .int .i64 v.t.x, .int .i64 v.t.y, .int .i64 n] 26)) dq) osq) := Below.next hb5 ((Below.refl _ _).alloc (by omega) _) (by simp; omega)
        clear hb5 k0 k1 k2 k3 k4 k5 k6
        generalize grow (redrawn (wr.alloc (.cells #[.int .i64 v.f.x, .int .i64 v.f.y, .int .i64 v.t.x, .int .i64 v.t.y, .int .i64 n] 26)) dq) osq = W2 at *
        go_wp2_with (at_builtin; refine wpList_append_far _ rfl (.tmp 53) (.tmp 55) 32 rfl w1.heap.size 3 i0 (.int .i64 0) 1 8 Tryz.underlying32 hi hz0 hz1 hz2 rfl (by omega) _ _ _ rfl HO3.out _ _ _ rfl rfl rfl (by omega) (by omega) (by first | omega | (simp; omega)) ?_; intro v' w2 hown' hb2 hfar')
        go_roundw
        case rel =>
          have e3 := st_yes HY.out
          exact ⟨k + 1, j + 1, by omega, by omega, by go_num, by rw [e3, ints_snoc]; exact hown', Lib.hid (by rw [e3, List.length_append, ← HJ.out]; rfl), Lib.hid (hfar' _ _ HF3.out), (hbx.trans hb6).trans hb2⟩
        case measure => simp [intOf]; omega
      by_cases h6 : x + n ≤ a
      · have HI := Lib.hid (show inR a x (x + n - 1) = false from inR_no.2 (.inr (by omega)))
        have HY := Lib.hid (show stB (mvT F T n P) D n a k = true by rw [HB.out]; simp [HI.out])
        go_wp2_with fail
        refine wp_region_quiet_below (by kernel_rfl) (by kernel_rfl) ?_
        repeat (first | go_big_quiet_step (fail) | quiet_step (fail))
        refine wpQuiet_nil ?_
        intro _ hw'
        obtain ⟨⟨dq, osq⟩, hw''⟩ := hw'
        subst hw''
        have hb5 := below_regrown (wr.alloc (.cells #[.int .i64 v.f.x, .int .i64 v.f.y, .int .i64 v.t.x, .int .i64 v.t.y, .int .i64 n] 26)) dq osq
        have HO3 := Lib.hid (own_below HO2.out hb5)
        have HF3 := Lib.hid (HF2.out.below hb5)
        have hz5 : wr.heap.size + 1 ≤ (grow (redrawn (wr.alloc (.cells #[.int .i64 v.f.x, .int .i64 v.f.y, .int .i64 v.t.x, .int .i64 v.t.y, .int .i64 n] 26)) dq) osq).heap.size := by have h := hb5.size; rwa [size_alloc_] at h
        have hb6 : Below w1.heap.size wr (grow (redrawn (wr.alloc (.cells #[.int .i64 v.f.x, .int .i64 v.f.y, .int .i64 v.t.x, .int .i64 v.t.y, .int .i64 n] 26)) dq) osq) := Below.next hb5 ((Below.refl _ _).alloc (by omega) _) (by simp; omega)
        clear hb5 k0 k1 k2 k3 k4 k5 k6
        generalize grow (redrawn (wr.alloc (.cells #[.int .i64 v.f.x, .int .i64 v.f.y, .int .i64 v.t.x, .int .i64 v.t.y, .int .i64 n] 26)) dq) osq = W2 at *
        go_wp2_with (at_builtin; refine wpList_append_far _ rfl (.tmp 53) (.tmp 55) 32 rfl w1.heap.size 3 i0 (.int .i64 0) 1 8 Tryz.underlying32 hi hz0 hz1 hz2 rfl (by omega) _ _ _ rfl HO3.out _ _ _ rfl rfl rfl (by omega) (by omega) (by first | omega | (simp; omega)) ?_; intro v' w2 hown' hb2 hfar')
        go_roundw
        case rel =>
          have e3 := st_yes HY.out
          exact ⟨k + 1, j + 1, by omega, by omega, by go_num, by rw [e3, ints_snoc]; exact hown', Lib.hid (by rw [e3, List.length_append, ← HJ.out]; rfl), Lib.hid (hfar' _ _ HF3.out), (hbx.trans hb6).trans hb2⟩
        case measure => simp [intOf]; omega
      have HI := Lib.hid (show inR a x (x + n - 1) = true from inR_iff.2 ⟨by omega, by omega⟩)
      by_cases hE : v.f = v.t
      · have HE := Lib.hid hE
        have q5 : (v.f.x == v.t.x) = true := by rw [hE]; simp
        have q6 : (v.f.y == v.t.y) = true := by rw [hE]; simp
        clear hE
        have HY := Lib.hid (show stB (mvT F T n P) D n a k = true by rw [HB.out]; simp [HE.out])
        go_wp2_with fail
        refine wp_region_quiet_below (by kernel_rfl) (by kernel_rfl) ?_
        repeat (first | go_big_quiet_step (fail) | quiet_step (fail))
        refine wpQuiet_nil ?_
        intro _ hw'
        obtain ⟨⟨dq, osq⟩, hw''⟩ := hw'
        subst hw''
        have hb5 := below_regrown (wr.alloc (.cells #[.int .i64 v.f.x, .int .i64 v.f.y, .int .i64 v.t.x, .int .i64 v.t.y, .int .i64 n] 26)) dq osq
        have HO3 := Lib.hid (own_below HO2.out hb5)
        have HF3 := Lib.hid (HF2.out.below hb5)
        have hz5 : wr.heap.size + 1 ≤ (grow (redrawn (wr.alloc (.cells #[.int .i64 v.f.x, .int .i64 v.f.y, .int .i64 v.t.x, .int .i64 v.t.y, .int .i64 n] 26)) dq) osq).heap.size := by have h := hb5.size; rwa [size_alloc_] at h
        have hb6 : Below w1.heap.size wr (grow (redrawn (wr.alloc (.cells #[.int .i64 v.f.x, .int .i64 v.f.y, .int .i64 v.t.x, .int .i64 v.t.y, .int .i64 n] 26)) dq) osq) := Below.next hb5 ((Below.refl _ _).alloc (by omega) _) (by simp; omega)
        clear hb5 k0 k1 k2 k3 k4 k5 k6
        generalize grow (redrawn (wr.alloc (.cells #[.int .i64 v.f.x, .int .i64 v.f.y, .int .i64 v.t.x, .int .i64 v.t.y, .int .i64 n] 26)) dq) osq = W2 at *
        go_wp2_with (at_builtin; refine wpList_append_far _ rfl (.tmp 53) (.tmp 55) 32 rfl w1.heap.size 3 i0 (.int .i64 0) 1 8 Tryz.underlying32 hi hz0 hz1 hz2 rfl (by omega) _ _ _ rfl HO3.out _ _ _ rfl rfl rfl (by omega) (by omega) (by first | omega | (simp; omega)) ?_; intro v' w2 hown' hb2 hfar')
        go_roundw
        case rel =>
          have e3 := st_yes HY.out
          exact ⟨k + 1, j + 1, by omega, by omega, by go_num, by rw [e3, ints_snoc]; exact hown', Lib.hid (by rw [e3, List.length_append, ← HJ.out]; rfl), Lib.hid (hfar' _ _ HF3.out), (hbx.trans hb6).trans hb2⟩
        case measure => simp [intOf]; omega
      · have HE := Lib.hid hE
        rcases spn hE with q5 | ⟨q5, q6⟩
        all_goals
          clear hE
          have HY := Lib.hid (show stB (mvT F T n P) D n a k = false by rw [HB.out]; simp [HI.out, HE.out])
          go_wp2_with fail
          refine wp_region_quiet_below (by kernel_rfl) (by kernel_rfl) ?_
          repeat (first | go_big_quiet_step (fail) | quiet_step (fail))
          refine wpQuiet_nil ?_
          intro _ hw'
          obtain ⟨⟨dq, osq⟩, hw''⟩ := hw'
          subst hw''
          have hb5 := below_regrown (wr.alloc (.cells #[.int .i64 v.f.x, .int .i64 v.f.y, .int .i64 v.t.x, .int .i64 v.t.y, .int .i64 n] 26)) dq osq
          have HO3 := Lib.hid (own_below HO2.out hb5)
          have HF3 := Lib.hid (HF2.out.below hb5)
          have hz5 : wr.heap.size + 1 ≤ (grow (redrawn (wr.alloc (.cells #[.int .i64 v.f.x, .int .i64 v.f.y, .int .i64 v.t.x, .int .i64 v.t.y, .int .i64 n] 26)) dq) osq).heap.size := by have h := hb5.size; rwa [size_alloc_] at h
          have hb6 : Below w1.heap.size wr (grow (redrawn (wr.alloc (.cells #[.int .i64 v.f.x, .int .i64 v.f.y, .int .i64 v.t.x, .int .i64 v.t.y, .int .i64 n] 26)) dq) osq) := Below.next hb5 ((Below.refl _ _).alloc (by omega) _) (by simp; omega)
          clear hb5 k0 k1 k2 k3 k4 k5 k6
          generalize grow (redrawn (wr.alloc (.cells #[.int .i64 v.f.x, .int .i64 v.f.y, .int .i64 v.t.x, .int .i64 v.t.y, .int .i64 n] 26)) dq) osq = W2 at *
          go_wp2_with fail
          go_roundw
          case rel =>
            have e3 := st_no HY.out
            exact ⟨k + 1, j, by omega, by omega, by go_num, by rw [e3]; exact HO3.out, Lib.hid (by rw [e3]; exact HJ.out), HF3, hbx.trans hb6⟩
          case measure => simp [intOf]; omega
    · go_wp2
      go_ret2
      have e3 : k = P.length := by omega
      subst e3
      exact RetInts.some_ HOK.out (e1.out HOK.out) hown HJ.out (by omega) hb


end Go.Proofs.YthehcjfljjfnmaaGreat
