/-
  Draws of charts: chartOf.
-/
import Derived.Test.YthehcjfljjfnmaaGreatDrc
import Derived.Deep.RegionHeld3
import Derived.Deep.DeepCutAuto
namespace Go.Proofs.YthehcjfljjfnmaaGreat
open Go.RowKit

/-- Spots are drawn, n of them. -/
def Dc (g k n : Nat) (w : World) (e : Ending) (w' : World) : Prop :=
  ∃ A' c' L, e = .returned (.slice A' L.length c') ∧ L.length = n ∧ w'.ownsRow w.heap.size 24 2 (.slice A' L.length c') L.length (spots L) ∧ (∀ s ∈ L, smSp s) ∧ Cur w' g k ∧ Oth g w w'
/-- Inside a round: the box of the spot that is tried. -/
def Bxd (w wx : World) (g K q : Nat) (v : Value) (L : List Sp) (R : Sp → Prop) : Prop :=
  ∃ s : Sp, R s ∧ Blk wx q #[.int .i64 s.x, .int .i64 s.y] 24 ∧ (0 ≤ s.x ∧ s.x ≤ 1280 ∧ 0 ≤ s.y ∧ s.y ≤ 672) ∧ wx.ownsRow w.heap.size 24 2 v L.length (spots L) ∧ Cur wx g K ∧ Oth g w wx
theorem keepB {w w' : World} {g b : Nat} {u v : Value} (h : Oth g w w') (hS : w.cell? ⟨b, 0, none⟩ = some u ∧ w.cell? ⟨b, 1, none⟩ = some v) (hb : b ≠ g) : w'.cell? ⟨b, 0, none⟩ = some u ∧ w'.cell? ⟨b, 1, none⟩ = some v := by
  have hl : b < w.heap.size := World.block_lt_of_cell? w _ hS.1
  exact ⟨(World.cell?_of_block (a := ⟨b, 0, none⟩) (h.block b hl hb)).trans hS.1, (World.cell?_of_block (a := ⟨b, 1, none⟩) (h.block b hl hb)).trans hS.2⟩
theorem keepD {w : World} {o : Obj} {p1 p2 : Addr} {v1 v2 : Value} (h : w.cell? p1 = some v1 ∧ w.cell? p2 = some v2) : (w.alloc o).cell? p1 = some v1 ∧ (w.alloc o).cell? p2 = some v2 := keep2 ((Below.refl _ _).alloc (Nat.le_refl _) _) h
theorem keepE {w : World} {p1 p2 : Addr} {v1 v2 : Value} (h : w.cell? p1 = some v1 ∧ w.cell? p2 = some v2) : w.drew.cell? p1 = some v1 ∧ w.drew.cell? p2 = some v2 := h
theorem keepC {w : World} {o : Obj} {p1 p2 : Addr} {v1 v2 : Value} (h : w.cell? p1 = some v1 ∧ w.cell? p2 = some v2) : (w.alloc o).drew.cell? p1 = some v1 ∧ (w.alloc o).drew.cell? p2 = some v2 := keepD h
theorem keepP {w : World} {b q : Nat} {u v x y : Value} (h : w.cell? ⟨b, 0, none⟩ = some u ∧ w.cell? ⟨b, 1, none⟩ = some v) (hne : b ≠ q) : ((w.setCell ⟨q, 0, none⟩ x).setCell ⟨q, 1, none⟩ y).cell? ⟨b, 0, none⟩ = some u ∧ ((w.setCell ⟨q, 0, none⟩ x).setCell ⟨q, 1, none⟩ y).cell? ⟨b, 1, none⟩ = some v := by
  have e : ((w.setCell ⟨q, 0, none⟩ x).setCell ⟨q, 1, none⟩ y).heap[b]? = w.heap[b]? := (heap_setCell_other _ ⟨q, 1, none⟩ b y hne).trans (heap_setCell_other _ ⟨q, 0, none⟩ b x hne)
  exact ⟨(World.cell?_of_block (a := ⟨b, 0, none⟩) e).trans h.1, (World.cell?_of_block (a := ⟨b, 1, none⟩) e).trans h.2⟩
theorem blk_new {w : World} {cs : Array Value} {t : TypeId} {b : Nat} (h : b = w.heap.size) : Blk (w.alloc (.cells cs t)) b cs t := by subst h; exact Blk.new _ _ _
theorem cur_drew {w : World} {g k : Nat} (h : Cur w g k) : Cur w.drew g k := h
theorem ownAlloc {w : World} {base : Nat} {e : TypeId} {size : Nat} {v : Value} {n : Nat} {xs : List Value} {o : Obj} (h : w.ownsRow base e size v n xs) : (w.alloc o).ownsRow base e size v n xs := own_below h ((Below.refl _ _).alloc (Nat.le_refl _) o)
theorem own_other {w : World} {base : Nat} {e : TypeId} {size : Nat} {v u : Value} {n : Nat} {xs : List Value} {p : Addr} (h : w.ownsRow base e size v n xs) (hne : ∀ j, v.ownBlock = some j → j ≠ p.block) : (w.setCell p u).ownsRow base e size v n xs := by
  refine ⟨h.1, ?_⟩
  rcases h.2 with h2 | ⟨k, cap, cur, h2, h3, h4, h5⟩
  · exact .inl h2
  · exact .inr ⟨k, cap, cur, h2, h3, (heap_setCell_other w p k u (hne k (by rw [h2]; rfl))).trans h4, h5⟩
set_option maxRecDepth 100000 in
set_option maxHeartbeats 6400000 in
theorem chartOf_any (g k m : Nat) (w : World) (h : Cur w g k) (hk : k ≤ 600000) (hm : m ≤ 13) : Calls Tryz.prog 99 #[.pointer (some ⟨g, 0, none⟩), .int .i64 m] w (Dc g (k + 4000) m w) := by
  obtain ⟨i0, hi, hz0, hz1, hz2⟩ := info_parts info_spot
  have hlt0 := h.lt
  have HC0 := Lib.hid h
  clear h
  go_enter Tryz.func99, Tryz.ntmps99
  go_wp2
  go_loopw [5, 6, 7, 8] (fun lv tv _ _ wr => ∃ (t : Nat) (L : List Sp), L.length ≤ m ∧ tv = .int .i64 t ∧ wr.ownsRow w.heap.size 24 2 lv L.length (spots L) ∧ (∀ s ∈ L, 0 ≤ s.x ∧ s.x ≤ 1280 ∧ 0 ≤ s.y ∧ s.y ≤ 672) ∧ Hid (pot L m t) ∧ Cur wr g (k + t * 40) ∧ Oth g w wr) (fun _ tv _ _ _ => 100 - (intOf tv).toNat)
  case atStart => exact ⟨0, [], by simp, rfl, World.ownsRow_nil _ _ _ _, (fun s hs => by simp at hs), Lib.hid (.inl (by omega)), by simpa using HC0.out, Oth.refl _ _⟩
  case round =>
    obtain ⟨t, L, hL, rfl, hown, hbd, HP, hcur, hoth⟩ := hrel
    obtain ⟨A', c', rfl⟩ := own_form hown
    have HX := Lib.hid hown
    have HBD := Lib.hid hbd
    have HOt := Lib.hid hoth
    have ht87 := pot_le HP.out
    obtain ⟨W1, hW1⟩ : ∃ x, x = wr := ⟨wr, rfl⟩
    subst hW1
    clear hown hbd hoth
    by_cases hlt : L.length < m
    · go_wp2_with fail
      refine (spot_any g (k + t * 40) _ hcur (by omega)).mono ?_
      rintro e w1 ⟨x, y, rfl, x0, x1, y0, y1, hc1, ho1⟩
      have X1 := ho1.own HX.out hlt0
      have O1 := HOt.out.trans ho1
      have hbx := Blk.new w1 #[.int .i64 x, .int .i64 y] 24
      have XA := Lib.hid (own_below X1 ((Below.refl _ _).alloc (Nat.le_refl _) (.cells #[.int .i64 x, .int .i64 y] 24)))
      have OA := Lib.hid (O1.alloc (.cells #[.int .i64 x, .int .i64 y] 24))
      have BA := Lib.hid hbx
      have CA := Lib.hid (hc1.alloc (.cells #[.int .i64 x, .int .i64 y] 24))
      have hqg : g < w1.heap.size := hc1.lt
      have hqw : w.heap.size ≤ w1.heap.size := O1.size
      have hrow : ∀ j, (Value.slice A' L.length c').ownBlock = some j → j < w1.heap.size := fun j hj => (X1.lt j hj).2
      have HROW := Lib.hid hrow
      have HSZ := Lib.hid (show w1.heap.size < (w1.alloc (.cells #[.int .i64 x, .int .i64 y] 24)).heap.size by simp)
      clear ho1 X1 O1 hbx hc1 hcur hrow
      have HBX : Bxd w (w1.alloc (.cells #[.int .i64 x, .int .i64 y] 24)) g (k + t * 40 + 12) w1.heap.size (.slice A' L.length c') L (fun _ => True) := ⟨⟨x, y⟩, trivial, BA.out, ⟨by show 0 ≤ x; omega, by show x ≤ 1280; omega, by show 0 ≤ y; omega, by show y ≤ 672; omega⟩, XA.out, CA.out, OA.out⟩
      have HBX := Lib.hid HBX
      clear XA OA BA CA HSZ
      go_upto_region 6 with (fail)
      go_cut [23] from 17 to 23 (fun v wx => ∃ b : Bool, v = .bool b ∧ (b = true → 0 < L.length) ∧ Bxd w wx g (k + t * 40 + 14) w1.heap.size (.slice A' L.length c') L (fun _ => True))
      case first =>
        obtain ⟨s, _, hb, hsb, hx, hc, ho⟩ := HBX.out
        have hX := Lib.hid hx
        have hO := Lib.hid ho
        have hB := Lib.hid hb
        clear hb hx ho
        rcases Nat.eq_zero_or_pos L.length with h0 | h0
        · have h0' : ((L.length : Nat) : Int) = 0 := by omega
          have HCC := Lib.hid hc
          clear hc
          go_wp2
          go_meet
          exact ⟨false, rfl, (fun h => by cases h), s, trivial, hB.out, hsb, hX.out, HCC.out.mono (by omega), hO.out⟩
        · have h0' : (0 : Int) < ((L.length : Nat) : Int) := by omega
          go_wp2_with fail
          refine (one_any g (k + t * 40 + 12) _ _ hc (by omega) (by omega)).mono ?_
          rintro e w2 ⟨b, rfl, hc2, ho2⟩
          have HO2 := Lib.hid ho2
          have HC2 := Lib.hid hc2
          clear ho2 hc hc2
          go_wp2
          go_meet
          exact ⟨b, rfl, (fun _ => h0), s, trivial, HO2.out.blk hB.out (by omega), hsb, HO2.out.own hX.out hlt0, HC2.out, hO.out.trans HO2.out⟩
      case rest =>
        obtain ⟨b, rfl, hb, HB2⟩ := hcut
        have HBX := Lib.hid HB2
        clear HB2
        go_upto_if 23 with (fail)
        go_cut [] from 24 to 45 (fun wx => Bxd w wx g (k + t * 40 + 22) w1.heap.size (.slice A' L.length c') L (fun _ => True))
        case first =>
          obtain ⟨s, _, hb', hsb, hx, hc, ho⟩ := HBX.out
          have hX := Lib.hid hx
          have hO := Lib.hid ho
          have hB := Lib.hid hb'
          clear hb' hx ho
          cases b
          · have HCC := Lib.hid hc
            clear hc
            go_wp2
            go_meet
            exact ⟨s, trivial, hB.out, hsb, hX.out, HCC.out.mono (by omega), hO.out⟩
          · have h0 := hb rfl
            go_wp2_with fail
            refine (pick_any g (k + t * 40 + 14) _ _ ((L.length : Int) - 1) hc (by omega) (by omega) (by omega) (by omega)).mono ?_
            rintro e w3 ⟨j, rfl, j0, j1, hc3, ho3⟩
            obtain ⟨j, rfl⟩ := Int.eq_ofNat_of_zero_le j0
            have hj : j < L.length := by omega
            obtain ⟨u, hu⟩ := some_of_lt hj
            have hub := HBD.out u (List.mem_of_getElem? hu)
            have X3 := ho3.own hX.out hlt0
            obtain ⟨bq, off, rfl, e3, e4⟩ := (Mem.of_own X3).spot hu
            have HX3 := Lib.hid X3
            have HO3 := Lib.hid (hO.out.trans ho3)
            have HB3 := Lib.hid (ho3.blk hB.out (by omega))
            have HC3 := Lib.hid hc3
            have z3 := hc3.lt
            have hqq := (HB3.out).lt
            clear ho3 hc hc3 X3 hu
            have hC4 := HC3.out.alloc (.cells #[.int .i64 u.x, .int .i64 u.y] 24)
            have hbu := Blk.new w3 #[.int .i64 u.x, .int .i64 u.y] 24
            have hS0 : (w3.alloc (.cells #[.int .i64 u.x, .int .i64 u.y] 24)).cell? ⟨w3.heap.size, 0, none⟩ = some (.int .i64 u.x) ∧ (w3.alloc (.cells #[.int .i64 u.x, .int .i64 u.y] 24)).cell? ⟨w3.heap.size, 1, none⟩ = some (.int .i64 u.y) := ⟨(hbu.cell 0).trans rfl, (hbu.cell 1).trans rfl⟩
            have HS0 := Lib.hid hS0
            have HC4 := Lib.hid hC4
            have HX4 := Lib.hid (own_below HX3.out ((Below.refl _ _).alloc (Nat.le_refl _) (.cells #[.int .i64 u.x, .int .i64 u.y] 24)))
            have HB4 := Lib.hid (HB3.out.alloc (.cells #[.int .i64 u.x, .int .i64 u.y] 24))
            have HO4 := Lib.hid (HO3.out.alloc (.cells #[.int .i64 u.x, .int .i64 u.y] 24))
            clear hC4 hbu hS0
            go_upto_region 8 with (fail)
            clear e3 e4
            generalize (w3.alloc (.cells #[.int .i64 u.x, .int .i64 u.y] 24)) = w4 at *
            have hzb : w3.heap.size ≠ g := by omega
            obtain ⟨qb, hqb⟩ : ∃ qb, w3.heap.size = qb := ⟨_, rfl⟩
            rw [hqb] at HS0 hzb ⊢
            have hgw4 : g < w4.heap.size := HC4.out.lt
            have hqg4 : w1.heap.size ≠ g := by omega
            have CJ1 := Lib.hid (fun (w : World) (b c : Nat) (h : Cur w g (k + t * 40 + 16)) (hB : Blk w b #[.int .i64 0, .int .i64 8, .int .i64 16, .int .i64 24, .int .i64 5] 3) (hne : b ≠ g) => among_any g (k + t * 40 + 16) b 5 c #[.int .i64 0, .int .i64 8, .int .i64 16, .int .i64 24, .int .i64 5] [0, 8, 16, 24, 5] 0 24 w h (by omega) hB rfl rfl hne (by simp) (by simp) (by simp))
            have CJ2 := Lib.hid (fun (w : World) (b c : Nat) (h : Cur w g (k + t * 40 + 18)) (hB : Blk w b #[.int .i64 0, .int .i64 8, .int .i64 16, .int .i64 3] 3) (hne : b ≠ g) => among_any g (k + t * 40 + 18) b 4 c #[.int .i64 0, .int .i64 8, .int .i64 16, .int .i64 3] [0, 8, 16, 3] 0 16 w h (by omega) hB rfl rfl hne (by simp) (by simp) (by simp))
            have hqne : qb ≠ w1.heap.size := by omega
            go_region_held3 (fun wx => wx.cell? ⟨qb, 0, none⟩ = some (.int .i64 u.x) ∧ wx.cell? ⟨qb, 1, none⟩ = some (.int .i64 u.y))
              (first | with_reducible exact HS0.out | with_reducible exact keepE HS0.out | with_reducible exact hS6 | with_reducible exact keepP hS6 hqne | with_reducible exact hS5 | with_reducible exact keepC HS0.out | with_reducible exact keepD HS0.out | with_reducible exact keepC (keepD HS0.out) | with_reducible exact keepD hS5 | with_reducible assumption | with_reducible exact keepD (by with_reducible assumption))
              (first
                | (go_at_call 27; (first | (have hm5 := hc5) | fail); (first | (refine (CJ2.out _ _ _ ?_ ?_ ?_).mono ?_) | fail); (focus (repeat (first | with_reducible exact hc5 | with_reducible refine cur_drew ?_ | with_reducible refine Cur.alloc ?_ _))); (focus (repeat (first | with_reducible refine Blk.drew ?_ | (with_reducible refine blk_new ?_; (first | (simp; done) | (simp; omega))) | with_reducible refine Blk.alloc ?_ _ | with_reducible refine Oth.blk ho5 ?_ (by first | omega | (simp; omega))))); (focus (first | omega | (simp; omega))); rintro e w6 ⟨n2, rfl, n20, n21, hc6, ho6⟩; have hS6 : w6.cell? ⟨qb, 0, none⟩ = some (.int .i64 u.x) ∧ w6.cell? ⟨qb, 1, none⟩ = some (.int .i64 u.y) := keepB ho6 (by repeat (first | with_reducible exact hS5 | with_reducible refine keepC ?_ | with_reducible refine keepD ?_)) hzb; have B6 : Blk w6 w1.heap.size #[.int .i64 s.x, .int .i64 s.y] 24 := ho6.blk (by repeat (first | with_reducible exact HB4.out | with_reducible exact B5 | with_reducible refine Blk.drew ?_ | with_reducible refine Blk.alloc ?_ _)) hqg4; have u0 := B6.frozen 0; have u1 := B6.frozen 1; have u2 := B6.cell 0; have u3 := B6.cell 1; (try simp at u2); (try simp at u3); have B6' := Lib.hid B6; clear B6)
                | (go_at_call 27; (first | (refine (CJ1.out _ _ _ ?_ ?_ ?_).mono ?_) | fail); (focus (repeat (first | with_reducible exact HC4.out | with_reducible refine cur_drew ?_ | with_reducible refine Cur.alloc ?_ _))); (focus (repeat (first | with_reducible refine Blk.drew ?_ | (with_reducible refine blk_new ?_; (first | (simp; done) | (simp; omega))) | with_reducible refine Blk.alloc ?_ _))); (focus (first | omega | (simp; omega))); rintro e w5 ⟨n1, rfl, n10, n11, hc5, ho5⟩; have hS5 : w5.cell? ⟨qb, 0, none⟩ = some (.int .i64 u.x) ∧ w5.cell? ⟨qb, 1, none⟩ = some (.int .i64 u.y) := keepB ho5 (by repeat (first | with_reducible exact HS0.out | with_reducible exact keepE HS0.out | with_reducible refine keepC ?_ | with_reducible refine keepD ?_)) hzb; have B5 : Blk w5 w1.heap.size #[.int .i64 s.x, .int .i64 s.y] 24 := ho5.blk (by repeat (first | with_reducible exact HB4.out  | with_reducible refine Blk.drew ?_ | with_reducible refine Blk.alloc ?_ _)) hqg4; have hz5 := ho5.size; (try simp at hz5))
                | (go_at_call 72; refine (l1Least_any _ _ _).mono ?_; rintro e w7 ⟨rfl, rfl⟩))
            all_goals
              go_wp2
              go_meet
              refine ⟨⟨min 1280 (IntKind.i64.wrap (u.x + n1)), min 672 (IntKind.i64.wrap (u.y + n2))⟩, trivial, B6'.out.set2 _ _, ?_, ?_, ?_, ?_⟩
              · have e1 : IntKind.i64.wrap (u.x + n1) = u.x + n1 := IntWalk.i64_in _ (by omega)
                have e2 : IntKind.i64.wrap (u.y + n2) = u.y + n2 := IntWalk.i64_in _ (by omega)
                rw [e1, e2]
                exact ⟨by show 0 ≤ min 1280 (u.x + n1); omega, by show min 1280 (u.x + n1) ≤ 1280; omega, by show 0 ≤ min 672 (u.y + n2); omega, by show min 672 (u.y + n2) ≤ 672; omega⟩
              · refine own_other (own_other ?_ (fun j hj => by have := HROW.out j hj; show j ≠ w1.heap.size; omega)) (fun j hj => by have := HROW.out j hj; show j ≠ w1.heap.size; omega)
                repeat (first | with_reducible exact HX4.out | with_reducible refine Oth.own ho6 ?_ hlt0 | with_reducible refine Oth.own ho5 ?_ hlt0 | with_reducible refine own_drew ?_ | with_reducible refine ownAlloc ?_)
              · exact (hc6.mono (by omega)).put (by omega)
              · refine (Oth.set (Oth.set ?_ (.inr (by show w.heap.size ≤ w1.heap.size; omega)) _) (.inr (by show w.heap.size ≤ w1.heap.size; omega)) _)
                repeat (first | with_reducible exact HO4.out | with_reducible refine Oth.trans ?_ ho6 | with_reducible refine Oth.trans ?_ ho5 | with_reducible refine Oth.drew ?_ | with_reducible refine Oth.alloc ?_ _)
        case rest =>
          have HBX := Lib.hid hcut
          clear hcut
          go_upto_if 47 with (fail)
          go_cut [] from 48 to 53 (fun wx => Bxd w wx g (k + t * 40 + 22) w1.heap.size (.slice A' L.length c') L (fun s => 60 < t → s = ⟨3 * (L.length : Int), 7 + (t : Int)⟩))
          case first =>
            obtain ⟨s, _, hb', hsb, hx, hc, ho⟩ := HBX.out
            have hX := Lib.hid hx
            have hO := Lib.hid ho
            have hB := Lib.hid hb'
            have hC := Lib.hid hc
            have f0 := hb'.frozen 0
            have f1 := hb'.frozen 1
            have c0 := hb'.cell 0
            have c1 := hb'.cell 1
            simp at c0 c1
            clear hb' hx ho hc
            by_cases ht : 60 < t
            · have ht' : (60 : Int) < (t : Int) := by omega
              go_wp2
              go_meet
              refine ⟨⟨3 * (L.length : Int), 7 + (t : Int)⟩, (fun _ => rfl), hB.out.set2 _ _, ⟨by show 0 ≤ 3 * (L.length : Int); omega, by show 3 * (L.length : Int) ≤ 1280; omega, by show 0 ≤ 7 + (t : Int); omega, by show 7 + (t : Int) ≤ 672; omega⟩, ?_, ?_, ?_⟩
              · exact own_other (own_other hX.out (fun j hj => by have := HROW.out j hj; show j ≠ w1.heap.size; omega)) (fun j hj => by have := HROW.out j hj; show j ≠ w1.heap.size; omega)
              · exact hC.out.put (by omega)
              · exact (hO.out.set (.inr (by show w.heap.size ≤ w1.heap.size; omega)) _).set (.inr (by show w.heap.size ≤ w1.heap.size; omega)) _
            · have ht' : ¬ (60 : Int) < (t : Int) := by omega
              go_wp2
              go_meet
              exact ⟨s, (fun h => absurd h ht), hB.out, hsb, hX.out, hC.out, hO.out⟩
          case rest =>
            obtain ⟨s, hsp, hb', hsb, hx, hc, ho⟩ := hcut
            have c0 := hb'.cell 0
            have c1 := hb'.cell 1
            simp at c0 c1
            have hqc := hb'.lt
            have HSP := Lib.hid hsp
            clear HBX hsp
            go_wp2_with fail
            refine (chFind_any _ _ L s _ (Mem.of_own hx) (by omega)).mono ?_
            rintro e w8 ⟨rfl, hq8⟩
            have HX8 := Lib.hid (own_below hx hq8)
            have HC8 := Lib.hid (hc.below hq8 hc.lt)
            have HO8 := Lib.hid (Oth.of_base (hq8.mono ho.size) ho.size ho)
            have B8 := hb'.below hq8 hb'.lt
            have c2 := B8.cell 0
            have c3 := B8.cell 1
            simp at c2 c3
            have z8 : w.heap.size ≤ w8.heap.size := HO8.out.size
            clear hx hc ho hb' hq8 B8 c0 c1
            cases hh : has L s
            · have HP2 := Lib.hid (pot_more HP.out hm hlt HSP.out)
              rw [idx_none hh]
              clear hh
              go_wp2_with (at_builtin; refine wpList_append_one _ rfl (.tmp 58) (.tmp 60) 31 rfl w.heap.size 24 i0 (.agg #[.int .i64 0, .int .i64 0]) 2 16 Tryz.underlying31 hi hz0 hz1 hz2 rfl (by omega) _ _ _ rfl HX8.out _ _ _ rfl rfl rfl (by omega) (by omega) (by omega) ?_; intro v' w9 hown' hb9)
              go_roundw
              case rel =>
                refine ⟨t + 1, L ++ [s], by simp; omega, by go_num, ?_, ?_, HP2, (HC8.out.below hb9 hlt0).mono (by omega), Oth.of_base hb9 (by omega) HO8.out⟩
                · rw [spots_snoc]; simpa using hown'
                · intro x hx
                  rcases List.mem_append.1 hx with hx | hx
                  · exact HBD.out x hx
                  · simp at hx; subst hx; exact hsb
              case measure => simp [intOf]; omega
            · have HP2 := Lib.hid (pot_next HP.out hm hlt HSP.out hh)
              obtain ⟨q, hqi, _, _⟩ := idx_some hh
              rw [hqi]
              clear hh hqi
              go_wp2
              go_roundw
              case rel => exact ⟨t + 1, L, hL, by go_num, HX8.out, HBD.out, HP2, HC8.out.mono (by omega), HO8.out⟩
              case measure => simp [intOf]; omega
    · have hlm : L.length = m := by omega
      have HCC := Lib.hid hcur
      clear hcur
      go_wp2
      go_ret
      exact ⟨A', c', L, rfl, hlm, HX.out, (fun s hs => by have := HBD.out s hs; exact ⟨by omega, by omega, by omega, by omega⟩), HCC.out.mono (by omega), HOt.out⟩
end Go.Proofs.YthehcjfljjfnmaaGreat
