/-
  Draws: two forms.
-/
import Derived.Test.YthehcjfljjfnmaaGreatDtm
import Derived.Test.YthehcjfljjfnmaaGreatTr
import Derived.Test.YthehcjfljjfnmaaGreatDre
namespace Go.Proofs.YthehcjfljjfnmaaGreat
open Go.RowKit
theorem spots_one : ∀ (L : List Sp), ∀ u ∈ spots L, u.oneCell' = true := fun L u hu => by
  simp only [spots, List.mem_flatMap] at hu
  obtain ⟨s, _, hu⟩ := hu
  simp at hu
  rcases hu with rfl | rfl <;> rfl
set_option maxRecDepth 100000 in
/-- Spots copied into memory of the call's own. -/
theorem chOwn_any (A : Option Addr) (c : Nat) (L : List Sp) (w : World) (hm : Mem w A (spots L)) (hl : L.length ≤ 1048576) (h0 : 0 < L.length) : Calls Tryz.prog 101 #[.slice A L.length c] w fun e w' =>
    ∃ A' c', e = .returned (.slice A' L.length c') ∧ w'.ownsRow w.heap.size 24 2 (.slice A' L.length c') L.length (spots L) ∧ Below w.heap.size w w' := by
  obtain ⟨i0, hi, hz0, hz1, hz2⟩ := info_parts info_spot
  obtain ⟨b, off, rfl, hc⟩ := hm (by intro h; have := spots_len L; rw [h] at this; simp at this; omega)
  have HC := Lib.hid hc
  clear hc
  have hbl : b < w.heap.size := World.block_lt_of_cell? w _ (HC.out 0 _ (List.getElem?_eq_getElem (by rw [spots_len]; omega)))
  have ho0 : (w.alloc (.cells #[] 24)).ownsRow w.heap.size 24 2 (.slice (some ⟨w.heap.size, 0, none⟩) 0 0) 0 [] := own_empty _ _ rfl (Nat.le_refl _) rfl
  have HO := Lib.hid ho0
  clear ho0
  go_enter Tryz.func101, Tryz.ntmps101
  go_wp2_with (at_builtin; refine wpList_append_own _ rfl (.tmp 3) (.tmp 4) 31 rfl w.heap.size 24 i0 (.agg #[.int .i64 0, .int .i64 0]) 2 16 Tryz.underlying31 hi hz0 hz1 hz2 rfl (by omega) _ _ _ rfl HO.out ⟨b, off, none⟩ L.length c (spots L) rfl (spots_len L) (fun j u hu => by rw [Addr.add_lit]; exact keep1 ((Below.refl _ _).alloc (Nat.le_refl _) _) (HC.out j u hu)) (spots_one L) (by unfold maxLen; omega) (by omega) (by simp) ?_; intro v' w1 ho1 hg1 _)
  go_ret
  rw [Nat.zero_add, List.nil_append] at ho1
  obtain ⟨A', c', rfl⟩ := own_form ho1
  exact ⟨A', c', rfl, ho1, ((Below.refl _ _).alloc (Nat.le_refl _) _).grown hg1 (by simp) (fun k hk => by have h9 : w.heap.size = k := Option.some.inj hk; omega)⟩
set_option maxRecDepth 100000 in
theorem chHas_any (A : Option Addr) (c : Nat) (L : List Sp) (x : Int) (w : World) (hm : Mem w A (spots L)) (hl : L.length ≤ 1048576) (hlc : L.length ≤ c) : Calls Tryz.prog 110 #[.slice A L.length c, .int .i64 x] w fun e w' => e = .returned (.bool (chOk L && inR x 0 ((L.length : Int) - 1))) ∧ Below w.heap.size w w' := by
  cases h1 : chOk L
  all_goals
    have H1 := Lib.hid h1
    clear h1
    go_enter Tryz.func110, Tryz.ntmps110
    go_wp2_with fail
    refine (chGood_any A c L _ hm hl hlc).mono ?_
    rintro e w1 ⟨he, hq⟩
    rw [H1.out] at he
    subst he
    go_wp2_with (go_at_call 45; refine (l1In_any _ _ _ _).mono ?_; rintro e w' ⟨rfl, rfl⟩)
    go_ret
    exact ⟨by simp, hq⟩
/-- Spots in memory of the call's own, or none. -/
def RetSw (w : World) (L : List Sp) (e : Ending) (w' : World) : Prop :=
  ∃ A' c' T, ∃ ok : Bool, e = .returned (.tuple #[.slice A' T.length c', .bool ok]) ∧ T.length ≤ L.length ∧ (∀ s ∈ T, s ∈ L) ∧ w'.ownsRow w.heap.size 24 2 (.slice A' T.length c') T.length (spots T) ∧ Below w.heap.size w w'
set_option maxHeartbeats 6400000 in
set_option maxRecDepth 100000 in
theorem swapPerformers_any (A : Option Addr) (c : Nat) (L : List Sp) (w : World) (hm : Mem w A (spots L)) (hl : L.length ≤ 14) (hlc : L.length ≤ c) (h2 : 1 < L.length) : Calls Tryz.prog 102 #[.slice A L.length c, .int .i64 0, .int .i64 ((L.length : Int) - 1)] w (RetSw w L) := by
  have HM := Lib.hid hm
  clear hm
  have i1 : inR 0 0 ((L.length : Int) - 1) = true := inR_iff.2 ⟨by omega, by omega⟩
  have i2 : inR ((L.length : Int) - 1) 0 ((L.length : Int) - 1) = true := inR_iff.2 ⟨by omega, by omega⟩
  have I1 := Lib.hid i1
  have I2 := Lib.hid i2
  clear i1 i2
  cases h1 : chOk L
  all_goals
    have H1 := Lib.hid h1
    clear h1
    go_enter Tryz.func102, Tryz.ntmps102
    go_wp2_with fail
    refine (chHas_any A c L 0 _ HM.out (by omega) hlc).mono ?_
    rintro e w1 ⟨he, hq1⟩
    rw [H1.out, I1.out] at he
    subst he
    have M1 := Lib.hid (HM.out.below hq1)
  · go_wp2_with fail
    refine bodyPost_ret (v := .tuple #[.slice none 0 0, .bool false]) (by simp [results, Tryz.results102, go_sem]) rfl ?_
    exact ⟨none, 0, [], false, rfl, by simp, (fun s hs => by cases hs), World.ownsRow_nil _ _ _ _, hq1⟩
  · go_wp2_with fail
    refine (chHas_any A c L ((L.length : Int) - 1) _ M1.out (by omega) hlc).mono ?_
    rintro e w2 ⟨he, hq2⟩
    rw [H1.out, I2.out] at he
    subst he
    have M2 := Lib.hid (M1.out.below hq2)
    have B2 := Lib.hid (hq1.trans (hq2.mono hq1.size))
    clear M1 hq1 hq2
    go_wp2_with fail
    refine (chOwn_any A c L _ M2.out (by omega) (by omega)).mono ?_
    rintro e w3 ⟨A3, c3, rfl, ho3, hq3⟩
    have M3 := Lib.hid (M2.out.below hq3)
    have B3 := Lib.hid (B2.out.trans (hq3.mono B2.out.size))
    have X3 := Lib.hid (own_base ho3 B2.out.size)
    have hz3 := hq3.size
    clear M2 B2 hq3
    obtain ⟨b, rfl, hb1, hb2⟩ := own_addr ho3 (by omega)
    clear ho3
    have hb0 : w.heap.size ≤ b := by have := B3.out.size; have := (X3.out.lt b rfl).1; omega
    obtain ⟨s0, hs0⟩ := some_of_lt (L := L) (k := 0) (by omega)
    obtain ⟨s1, hs1⟩ := some_of_lt (L := L) (k := L.length - 1) (by omega)
    obtain ⟨ba, oa, eq1, g0, g1⟩ := M3.out.spot hs0
    obtain ⟨_, _, eq2, g2, g3⟩ := M3.out.spot hs1
    have e4 := eq1.symm.trans eq2
    cases e4
    obtain rfl := eq1
    have hba : ba ≠ b := by
      have := World.block_lt_of_cell? w3 _ g0
      obtain ⟨_, _, eq3, k0, k1⟩ := HM.out.spot hs0
      cases eq3
      have := World.block_lt_of_cell? w _ k0
      simp at this
      omega
    have fa := X3.out.frozenAt 0
    have fb := X3.out.frozenAt 1
    have fc := X3.out.frozenAt ((L.length - 1) * 2)
    have fd := X3.out.frozenAt ((L.length - 1) * 2 + 1)
    obtain ⟨_, _, eq4, y0, y1⟩ := (Mem.of_own X3.out).spot hs0
    cases eq4
    obtain ⟨_, _, eq5, y2, y3⟩ := (Mem.of_own X3.out).spot hs1
    cases eq5
    simp only [Nat.zero_mul, Nat.add_zero, Nat.zero_add] at g0 g1 g2 g3 y0 y1 y2 y3
    have hkn : ((L.length : Int) - 1).toNat = L.length - 1 := by omega
    have hk0 : (0 : Int) ≤ (L.length : Int) - 1 := by omega
    have hk1 : (L.length : Int) - 1 < (L.length : Int) := by omega
    have hl0 : (0 : Int) < (L.length : Int) := by omega
    have st1 := (X3.out.stored 0 (.int .i64 s1.x)).1
    have st2 := (st1.stored 1 (.int .i64 s1.y)).1
    have e4 : ((spots L).set 0 (.int .i64 s1.x)).set 1 (.int .i64 s1.y) = spots (L.set 0 s1) := (spots_set L 0 s1).symm
    rw [e4] at st2
    have X4 := Lib.hid st2
    have B4 := Lib.hid ((B3.out.setCell (p := ⟨b, 0, none⟩) hb0 (.int .i64 s1.x)).setCell (p := ⟨b, 1, none⟩) hb0 (.int .i64 s1.y))
    have M4 := Lib.hid (show Mem ((w3.setCell ⟨b, 0, none⟩ (.int .i64 s1.x)).setCell ⟨b, 1, none⟩ (.int .i64 s1.y)) (some ⟨ba, oa, none⟩) (spots L) from HM.out.below B4.out)
    clear st1 st2 e4
    go_upto_region 5 with (fail)
    clear g0 g1 g2 g3 y0 y1 y2 y3 fa fb fc fd
    generalize ((w3.setCell ⟨b, 0, none⟩ (.int .i64 s1.x)).setCell ⟨b, 1, none⟩ (.int .i64 s1.y)) = w4 at X4 B4 M4 ⊢
    clear X3 B3 M3 hz3 hb1 hb2
    have hs1' : (L.set 0 s1)[L.length - 1]? = some s1 := by rw [List.getElem?_set_ne (by omega)]; exact hs1
    obtain ⟨_, _, eq6, g0, g1⟩ := M4.out.spot hs0
    cases eq6
    obtain ⟨_, _, eq7, y2, y3⟩ := (Mem.of_own X4.out).spot hs1'
    cases eq7
    simp only [Nat.zero_mul, Nat.add_zero, Nat.zero_add] at g0 g1 y2 y3
    have fc := X4.out.frozenAt ((L.length - 1) * 2)
    have fd := X4.out.frozenAt ((L.length - 1) * 2 + 1)
    have st1 := (X4.out.stored ((L.length - 1) * 2) (.int .i64 s0.x)).1
    have st2 := (st1.stored ((L.length - 1) * 2 + 1) (.int .i64 s0.y)).1
    rw [← spots_set] at st2
    have X5 := Lib.hid st2
    have B5 := Lib.hid ((B4.out.setCell (p := ⟨b, (L.length - 1) * 2, none⟩) hb0 (.int .i64 s0.x)).setCell (p := ⟨b, (L.length - 1) * 2 + 1, none⟩) hb0 (.int .i64 s0.y))
    clear st1 st2
    have ms0 := List.mem_of_getElem? hs0
    have ms1 := List.mem_of_getElem? hs1
    have HQ := Lib.hid (show ∀ s ∈ (L.set 0 s1).set (L.length - 1) s0, s ∈ L from fun s hs => by
      rcases List.mem_or_eq_of_mem_set hs with hs | hs
      · rcases List.mem_or_eq_of_mem_set hs with hs | hs
        · exact hs
        · subst hs; exact ms1
      · subst hs; exact ms0)
    have HL := Lib.hid (show ((L.set 0 s1).set (L.length - 1) s0).length = L.length by rw [List.length_set, List.length_set])
    clear ms0 ms1
    go_wp2_with fail
    refine bodyPost_ret (v := .tuple #[.slice (some ⟨b, 0, none⟩) ((L.set 0 s1).set (L.length - 1) s0).length c3, .bool true]) (by rw [HL.out]; simp [results, Tryz.results102, go_sem]) rfl ?_
    exact ⟨_, c3, (L.set 0 s1).set (L.length - 1) s0, true, rfl, by rw [HL.out]; omega, HQ.out, by rw [HL.out]; exact X5.out, B5.out⟩


theorem own_otherF {w : World} {base : Nat} {e : TypeId} {size : Nat} {v u : Value} {n : Nat} {xs : List Value} {p : Addr} (h : w.ownsRow base e size v n xs) (hne : ∀ j, v.ownBlock = some j → j ≠ p.block) : (w.setCell p u).ownsRow base e size v n xs := own_other h hne
/-- Spots that a call has laid behind w. -/
def ownF (w w' : World) (A' : Option Addr) (c' : Nat) (L : List Sp) : Prop := L.length ≤ 13 ∧ w'.ownsRow w.heap.size 24 2 (.slice A' L.length c') L.length (spots L) ∧ (∀ s ∈ L, smSp s)
theorem ownF.base {w a w' : World} {A' : Option Addr} {c' : Nat} {L : List Sp} (h : ownF a w' A' c' L) (hb : w.heap.size ≤ a.heap.size) : ownF w w' A' c' L := ⟨h.1, own_base h.2.1 hb, h.2.2⟩
theorem ownF.oth {w w' w'' : World} {g : Nat} {A' : Option Addr} {c' : Nat} {L : List Sp} (h : ownF w w' A' c' L) (ho : Oth g w' w'') (hg : g < w.heap.size) : ownF w w'' A' c' L := ⟨h.1, ho.own h.2.1 hg, h.2.2⟩
theorem ownF.below {w w' w'' : World} {A' : Option Addr} {c' : Nat} {L : List Sp} (h : ownF w w' A' c' L) (hb : Below w'.heap.size w' w'') : ownF w w'' A' c' L := ⟨h.1, own_below h.2.1 hb, h.2.2⟩
/-- Two forms are drawn. -/
def Dft (g k : Nat) (w : World) (e : Ending) (w' : World) : Prop :=
  ∃ A' c' F B' d' T, e = .returned (.tuple #[.slice A' F.length c', .slice B' T.length d']) ∧ ownF w w' A' c' F ∧ ownF w w' B' d' T ∧ Cur w' g k ∧ Oth g w w'
theorem spots_setX {L : List Sp} {k : Nat} {s : Sp} (h : L[k]? = some s) (x : Int) : (spots L).set (k * 2) (.int .i64 x) = spots (L.set k ⟨x, s.y⟩) := by
  induction L generalizing k with
  | nil => simp at h
  | cons a L ih =>
    cases k with
    | zero => simp at h; subst h; simp [spots]
    | succ k =>
      have h' : L[k]? = some s := by simpa using h
      have e := ih h'
      rw [show (k + 1) * 2 = k * 2 + 1 + 1 by omega]
      simp only [spots, List.flatMap_cons, List.cons_append, List.nil_append, List.set_cons_succ] at e ⊢
      rw [e]
set_option maxHeartbeats 12800000 in
set_option maxRecDepth 100000 in
theorem formsTwo_any (g k : Nat) (w : World) (h : Cur w g k) (hk : k ≤ 300000) : Calls Tryz.prog 90 #[.pointer (some ⟨g, 0, none⟩)] w (Dft g (k + 23000) w) := by
  have hlt0 := h.lt
  go_enter Tryz.func90, Tryz.ntmps90
  go_wp2_with fail
  refine (anyChart_any g k _ h (by omega)).mono ?_
  rintro e w1 ⟨A1, c1, F, rfl, hl1, hx1, hs1, hc1, ho1⟩
  have F1 := Lib.hid (show ownF w w1 A1 c1 F from ⟨hl1, hx1, hs1⟩)
  have O1 := Lib.hid ho1
  clear ho1 hx1 hs1 h
  obtain ⟨m, hm⟩ : ∃ m : Nat, max (1 : Int) (F.length : Int) = (m : Int) := ⟨max 1 F.length, by omega⟩
  have hm1 : 1 ≤ m := by omega
  have hm2 : m ≤ 13 := by omega
  have HMX := Lib.hid hm
  go_wp2_with (go_at_call 49; refine (l1Most_any _ _ _).mono ?_; rintro e w' ⟨rfl, rfl⟩; rw [HMX.out])
  clear hm
  refine (chartOf_any g (k + 9000) m _ hc1 (by omega) (by omega)).mono ?_
  rintro e w2 ⟨A2, c2, T, rfl, hl2, hx2, hs2, hc2, ho2⟩
  have z1 : w.heap.size ≤ w1.heap.size := O1.out.size
  have T2 := Lib.hid (show ownF w w2 A2 c2 T from ⟨by omega, own_base hx2 z1, hs2⟩)
  have F2 := Lib.hid (F1.out.oth ho2 hlt0)
  have O2 := Lib.hid (O1.out.trans ho2)
  clear ho2 hx2 hs2 hc1 F1 O1 z1
  have z2 : w.heap.size ≤ w2.heap.size := O2.out.size
  go_wp2_with fail
  refine (pick_any g (k + 13000) 8 _ 7 hc2 (by omega) (by omega) (by omega) (by omega)).mono ?_
  rintro e w3 ⟨r, rfl, r0, r1, hc3, ho3⟩
  have T3 := Lib.hid (T2.out.oth ho3 hlt0)
  have F3 := Lib.hid (F2.out.oth ho3 hlt0)
  have O3 := Lib.hid (O2.out.trans ho3)
  have z3 : w.heap.size ≤ w3.heap.size := O3.out.size
  have C3 := Lib.hid hc3
  clear ho3 hc3 hc2 T2 F2 O2 z2
  by_cases e0 : r = 0
  · subst e0
    go_wp2_with fail
    refine (chartOf_any g (k + 13002) m _ C3.out (by omega) (by omega)).mono ?_
    rintro e w4 ⟨A4, c4, U, rfl, hl4, hx4, hs4, hc4, ho4⟩
    have U4 := Lib.hid (show ownF w w4 A4 c4 U from ⟨by omega, own_base hx4 z3, hs4⟩)
    have F4 := Lib.hid (F3.out.oth ho4 hlt0)
    have O4 := Lib.hid (O3.out.trans ho4)
    have z4 : w.heap.size ≤ w4.heap.size := O4.out.size
    have C4 := Lib.hid hc4
    obtain ⟨b, rfl, hb1, hb2⟩ := own_addr hx4 (by omega)
    have hFb := Lib.hid (show ∀ q, (Value.slice A1 F.length c1).ownBlock = some q → q ≠ b from fun q hq => by have := (F3.out.2.1.lt q hq).2; omega)
    have hgb : g < b := by omega
    have hwb : w.heap.size ≤ b := by omega
    clear ho4 hx4 hs4 hc4 F3 O3 T3 C3 hb1 hb2
    go_wp2_with fail
    go_loopw [7, 25] (fun _ cv wr => ∃ (j : Nat) (V : List Sp), j ≤ U.length ∧ cv = .int .i64 (j : Int) ∧ V.length = U.length ∧ Hid (ownF w wr (some ⟨b, 0, none⟩) c4 V) ∧ Hid (ownF w wr A1 c1 F) ∧ Cur wr g (k + 17100 + j * 2) ∧ Hid (Oth g w wr)) (fun _ cv _ => U.length - (intOf cv).toNat)
    case atStart => exact ⟨0, U, by omega, rfl, rfl, U4, F4, C4.out.mono (by omega), O4⟩
    case round =>
      obtain ⟨j, V, hj, rfl, hV, V5, F5, hcur, O5⟩ := hrel
      clear U4 F4 O4 C4
      by_cases hlt : j < U.length
      · obtain ⟨s, hs⟩ := some_of_lt (L := V) (k := j) (by omega)
        have hss := V5.out.2.2 s (List.mem_of_getElem? hs)
        obtain ⟨_, _, eq4, y0, y1⟩ := (Mem.of_own V5.out.2.1).spot hs
        cases eq4
        simp only [Nat.zero_add] at y0 y1
        have fa := V5.out.2.1.frozenAt (j * 2)
        have HS := Lib.hid hs
        clear hs y1
        have hjl : (j : Int) < (U.length : Int) := by omega
        have CJ := Lib.hid (fun (w' : World) (h : Cur w' g (k + 17100 + j * 2)) => pick_any g (k + 17100 + j * 2) 2 w' 1 h (by omega) (by omega) (by omega) (by omega))
        have HL1 := Lib.hid (fun (w' : World) (a : Int) => l1Least_any 1280 a w')
        go_upto_region 10 with (fail)
        go_wp2_with fail
        go_region_with (first
          | (go_at_call 54; (first | (refine (CJ.out _ ?_).mono ?_) | fail); (exact curD hcur); rintro e w6 ⟨q, rfl, q0, q1, hc6, ho6⟩; have V6 := ownF.oth (w' := wr.drew) (show ownF w wr.drew (some ⟨b, 0, none⟩) c4 V from V5.out) ho6 hlt0; have F6 := ownF.oth (w' := wr.drew) (show ownF w wr.drew A1 c1 F from F5.out) ho6 hlt0; obtain ⟨_, _, eq6, u0, u1⟩ := (Mem.of_own V6.2.1).spot HS.out; cases eq6; simp only [Nat.zero_add] at u0; clear u1; have fu := V6.2.1.frozenAt (j * 2))
          | (go_at_call 72; refine (HL1.out _ _).mono ?_; rintro e w9 ⟨rfl, rfl⟩))
        all_goals
          have hX : IntKind.i64.wrap (s.x + q) = s.x + q := IntWalk.i64_in _ (by have := hss.1; have := hss.2.1; omega)
          rw [hX]
          have st1 := (V6.2.1.stored (j * 2) (.int .i64 (min 1280 (s.x + q)))).1
          rw [spots_setX HS.out] at st1
          have V7 := Lib.hid (show ownF w (w6.setCell ⟨b, j * 2, none⟩ (.int .i64 (min 1280 (s.x + q)))) (some ⟨b, 0, none⟩) c4 (V.set j ⟨min 1280 (s.x + q), s.y⟩) from ⟨by rw [List.length_set]; exact V6.1, by rw [List.length_set]; exact st1, fun x hx => by
            rcases List.mem_or_eq_of_mem_set hx with hx | hx
            · exact V6.2.2 x hx
            · subst hx; unfold smSp at *; dsimp only; omega⟩)
          have F7 := Lib.hid (show ownF w (w6.setCell ⟨b, j * 2, none⟩ (.int .i64 (min 1280 (s.x + q)))) A1 c1 F from ⟨F6.1, own_otherF F6.2.1 (fun q hq => hFb.out q hq), F6.2.2⟩)
          have O7 := Lib.hid ((O5.out.drew.trans ho6).set (p := ⟨b, j * 2, none⟩) (.inr hwb) (.int .i64 (min 1280 (s.x + q))))
          have C7 := Lib.hid ((hc6.put1 (p := ⟨b, j * 2, none⟩) (u := .int .i64 (min 1280 (s.x + q))) hgb).mono (k' := k + 17100 + (j + 1) * 2) (by omega))
          clear hX st1 V6 F6 V5 F5 O5 hcur ho6 hc6 u0 fu y0 fa CJ HL1
          generalize (w6.setCell ⟨b, j * 2, none⟩ (.int .i64 (min 1280 (s.x + q)))) = w7 at V7 F7 O7 C7 ⊢
          go_wp2_with fail
          go_roundw
          case rel => exact ⟨j + 1, V.set j ⟨min 1280 (s.x + q), s.y⟩, by omega, by go_num, by rw [List.length_set]; exact hV, V7, F7, C7.out, O7⟩
          case measure => simp [intOf]; omega
      · have hjj : j = U.length := by omega
        go_wp2_with fail
        go_ret2
        exact ⟨A1, c1, F, some ⟨b, 0, none⟩, c4, V, by rw [hV, hl4]; rfl, F5.out, V5.out, hcur.mono (by omega), O5.out⟩
  have ne0 : ((r : Int) == 0) = false := beq_eq_false_iff_ne.2 e0
  by_cases e1 : r = 1
  · subst e1
    go_wp2_with fail
    refine (chGood_any A1 c1 F _ (Mem.of_own F3.out.2.1) (by omega) (own_capM F3.out.2.1)).mono ?_
    rintro e w4 ⟨he, hq4⟩
    have F4 := Lib.hid (F3.out.below hq4)
    have T4 := Lib.hid (T3.out.below hq4)
    have O4 := Lib.hid (O3.out.trans (Oth.of_below hq4))
    have C4 := Lib.hid (C3.out.below hq4 C3.out.lt)
    have z4 : w.heap.size ≤ w4.heap.size := O4.out.size
    clear hq4 F3 T3 O3 C3
    cases h1 : chOk F
    · rw [h1] at he
      subst he
      go_wp2_with fail
      go_ret2
      exact ⟨A1, c1, F, A2, c2, T, by rw [hl2]; rfl, F4.out, T4.out, C4.out.mono (by omega), O4.out⟩
    · rw [h1] at he
      subst he
      have hF1 : 1 ≤ F.length := by
        rw [chOk, Bool.and_eq_true, inR_iff] at h1
        omega
      have hmF : m = F.length := by have := HMX.out; omega
      clear h1
      subst hmF
      go_wp2_with fail
      refine (chOwn_any A1 c1 F _ (Mem.of_own F4.out.2.1) (by omega) (by omega)).mono ?_
      rintro e w5 ⟨A5, c5, rfl, ho5, hq5⟩
      have U5 := Lib.hid (show ownF w w5 A5 c5 F from ⟨hl1, own_base ho5 z4, F4.out.2.2⟩)
      have F5 := Lib.hid (F4.out.below hq5)
      have O5 := Lib.hid (O4.out.trans (Oth.of_below hq5))
      have C5 := Lib.hid (C4.out.below hq5 C4.out.lt)
      have z5 : w.heap.size ≤ w5.heap.size := O5.out.size
      clear ho5 hq5 F4 T4 O4 C4
      by_cases h11 : 1 < F.length
      · have hd : (1 : Int) < (F.length : Int) := by omega
        go_wp2_with fail
        refine (swapPerformers_any A5 c5 F _ (Mem.of_own U5.out.2.1) (by omega) (own_capM U5.out.2.1) h11).mono ?_
        rintro e w6 ⟨A6, c6, V, ok, rfl, hv1, hv2, hv3, hq6⟩
        have V6 := Lib.hid (show ownF w w6 A6 c6 V from ⟨by omega, own_base hv3 z5, fun s hs => U5.out.2.2 s (hv2 s hs)⟩)
        have F6 := Lib.hid (F5.out.below hq6)
        have O6 := Lib.hid (O5.out.trans (Oth.of_below hq6))
        have C6 := Lib.hid (C5.out.below hq6 C5.out.lt)
        clear hv3 hq6 U5 F5 O5 C5
        go_wp2_with fail
        go_ret2
        exact ⟨A1, c1, F, A6, c6, V, rfl, F6.out, V6.out, C6.out.mono (by omega), O6.out⟩
      · have hd : ¬ (1 : Int) < (F.length : Int) := by omega
        go_wp2_with fail
        go_ret2
        exact ⟨A1, c1, F, A5, c5, F, rfl, F5.out, U5.out, C5.out.mono (by omega), O5.out⟩
  have ne1 : ((r : Int) == 1) = false := beq_eq_false_iff_ne.2 e1
  by_cases e2 : r = 2
  · subst e2
    go_wp2_with fail
    refine (one_any g (k + 13002) 4 _ C3.out (by omega) (by omega)).mono ?_
    rintro e w4 ⟨b4, rfl, hc4, ho4⟩
    have F4 := Lib.hid (F3.out.oth ho4 hlt0)
    have T4 := Lib.hid (T3.out.oth ho4 hlt0)
    have O4 := Lib.hid (O3.out.trans ho4)
    have C4 := Lib.hid hc4
    have z4 : w.heap.size ≤ w4.heap.size := O4.out.size
    clear ho4 hc4 F3 T3 O3 C3
    cases b4
    · go_wp2_with fail
      go_ret2
      exact ⟨A1, c1, F, A2, c2, T, by rw [hl2]; rfl, F4.out, T4.out, C4.out.mono (by omega), O4.out⟩
    · go_wp2_with fail
      refine (anyChart_any g (k + 13004) _ C4.out (by omega)).mono ?_
      rintro e w5 ⟨A5, c5, U, rfl, hl5, hx5, hs5, hc5, ho5⟩
      have U5 := Lib.hid (show ownF w w5 A5 c5 U from ⟨hl5, own_base hx5 z4, hs5⟩)
      have F5 := Lib.hid (F4.out.oth ho5 hlt0)
      have O5 := Lib.hid (O4.out.trans ho5)
      clear hx5 hs5 ho5 F4 T4 O4 C4
      go_wp2_with fail
      go_ret2
      exact ⟨A1, c1, F, A5, c5, U, rfl, F5.out, U5.out, hc5.mono (by omega), O5.out⟩
  have ne2 : ((r : Int) == 2) = false := beq_eq_false_iff_ne.2 e2
  go_wp2_with fail
  go_ret2
  exact ⟨A1, c1, F, A2, c2, T, by rw [hl2]; rfl, F3.out, T3.out, C3.out.mono (by omega), O3.out⟩

end Go.Proofs.YthehcjfljjfnmaaGreat
