/-
  Contracts: lowest terms, parts of ways.
-/
import Derived.Test.YthehcjfljjfnmaaGreatDef
namespace Go.Proofs.YthehcjfljjfnmaaGreat
open Go.RowKit Go.Sort Go.Lib

theorem gcd_step (u v : Nat) : Nat.gcd v (u % v) = Nat.gcd u v := by rw [Nat.gcd_comm v (u % v), ← Nat.gcd_rec, Nat.gcd_comm]
theorem tmod_nat (u v : Nat) : (u : Int).tmod (v : Int) = ((u % v : Nat) : Int) := by rw [Int.tmod_eq_emod_of_nonneg (by omega)]; exact (Int.natCast_emod u v).symm
set_option maxRecDepth 100000 in
theorem gcdOf_any (A B : Nat) (ha : A ≤ 9223372036854775807) (hb : B ≤ 9223372036854775807) (w : World) : Calls Tryz.prog 82 #[.int .i64 A, .int .i64 B] w fun e w' => e = .returned (.int .i64 (Nat.gcd A B)) ∧ Below w.heap.size w w' := by
  go_enter Tryz.func82, Tryz.ntmps82
  go_wp2
  all_goals
    go_loopw [0, 1] (fun x y wr => ∃ u v : Nat, x = .int .i64 u ∧ y = .int .i64 v ∧ Hid (Nat.gcd u v = Nat.gcd A B) ∧ u ≤ 9223372036854775807 ∧ v ≤ 9223372036854775807 ∧ Below w.heap.size w wr) (fun _ y _ => (intOf y).toNat)
    case atStart => exact ⟨A, B, by first | rfl | (congr 1; omega), by first | rfl | (congr 1; omega), Lib.hid rfl, ha, hb, by (repeat (first | exact Below.refl _ _ | assumption | (refine Below.alloc ?_ (by first | omega | (simp; done) | (simp; omega)) _) | (refine Below.setCell ?_ (by first | omega | (simp; done) | (simp; omega)) _) | (refine Below.drew ?_) | (refine Below.drewN ?_ _) | (refine Below.next (by assumption) ?_ (by first | omega | (simp; done) | (simp; omega)))))⟩
    case round =>
      obtain ⟨u, v, rfl, rfl, HG, hu, hv, hbw⟩ := hrel
      by_cases h0 : v = 0
      · subst h0
        go_wp2
        go_ret
        exact ⟨by rw [← HG.out, Nat.gcd_zero_right]; rfl, hbw⟩
      · have hv0 : ¬ (v : Int) = 0 := by omega
        have hm := tmod_nat u v
        have hml : u % v < v := Nat.mod_lt _ (by omega)
        have hw : IntKind.i64.wrap ((u % v : Nat) : Int) = ((u % v : Nat) : Int) := IntWalk.i64_in _ (by omega)
        have HS := Lib.hid (gcd_step u v)
        generalize hr : u % v = r at *
        clear hr
        go_wp2
        refine wp_region_quiet_below (by kernel_rfl) (by kernel_rfl) ?_
        repeat (first | go_big_quiet_step (fail) | quiet_step (fail))
        refine wpQuiet_nil ?_
        intro _ hw'
        obtain ⟨⟨dq, osq⟩, hw''⟩ := hw'
        subst hw''
        have hb5 := below_regrown (wr) dq osq
        generalize hW2 : grow (redrawn wr dq) osq = W2 at *
        clear hW2
        go_wp2
        go_roundw
        case rel => exact ⟨v, r, rfl, rfl, Lib.hid (HS.out.trans HG.out), by omega, by omega, Below.next hb5 hbw hbw.size⟩
        case measure => simp [intOf]; omega

def lwN (a b : Int) : Int := a / (Nat.gcd a.toNat b.toNat : Int)
def lwD (a b : Int) : Int := b / (Nat.gcd a.toNat b.toNat : Int)
theorem lw_facts {a b : Int} (ha : 0 ≤ a) (hb : 0 < b) : ∃ g : Int, 0 < g ∧ g = (Nat.gcd a.toNat b.toNat : Int) ∧ lwN a b * g = a ∧ lwD a b * g = b ∧ 0 ≤ lwN a b ∧ lwN a b ≤ a ∧ 0 < lwD a b ∧ lwD a b ≤ b := by
  have hg : 0 < Nat.gcd a.toNat b.toNat := Nat.gcd_pos_of_pos_right _ (by omega)
  have d1 : ((Nat.gcd a.toNat b.toNat : Nat) : Int) ∣ a := by
    have := Int.natCast_dvd_natCast.2 (Nat.gcd_dvd_left a.toNat b.toNat)
    rwa [Int.toNat_of_nonneg ha] at this
  have d2 : ((Nat.gcd a.toNat b.toNat : Nat) : Int) ∣ b := by
    have := Int.natCast_dvd_natCast.2 (Nat.gcd_dvd_right a.toNat b.toNat)
    rwa [Int.toNat_of_nonneg (by omega)] at this
  have e1 : lwN a b * (Nat.gcd a.toNat b.toNat : Int) = a := Int.ediv_mul_cancel d1
  have e2 : lwD a b * (Nat.gcd a.toNat b.toNat : Int) = b := Int.ediv_mul_cancel d2
  have n1 : 0 ≤ lwN a b := Int.ediv_nonneg ha (by omega)
  have n2 : lwN a b ≤ a := Int.ediv_le_self _ ha
  have n3 : 0 ≤ lwD a b := Int.ediv_nonneg (by omega) (by omega)
  have n4 : lwD a b ≤ b := Int.ediv_le_self _ (by omega)
  refine ⟨_, by omega, rfl, e1, e2, n1, n2, ?_, n4⟩
  rcases Int.lt_or_eq_of_le n3 with h | h
  · exact h
  · rw [← h] at e2; omega
theorem lw_below {a b : Int} (ha : 0 ≤ a) (hb : 0 < b) (M : Int) : lwN a b < M * lwD a b ↔ a < M * b := by
  obtain ⟨g, hg, -, e1, e2, -, -, -, -⟩ := lw_facts ha hb
  have h : M * b = (M * lwD a b) * g := by rw [Int.mul_assoc, e2]
  constructor
  · intro k
    have := Int.mul_lt_mul_of_pos_right k hg
    rw [e1] at this
    rw [h]; exact this
  · intro k
    have k2 : lwN a b * g < M * lwD a b * g := by rw [e1, ← h]; exact k
    exact Int.lt_of_mul_lt_mul_right k2 (by omega)
set_option maxRecDepth 100000 in
theorem l1Abs_any (a : Int) (h : 0 ≤ a) (h2 : a ≤ 9223372036854775807) (w : World) : Calls Tryz.prog 84 #[.int .i64 a] w fun e w' => e = .returned (.int .i64 a) ∧ w = w' := by
  have he : max a (-a) = a := by omega
  go_enter Tryz.func84, Tryz.ntmps84
  go_wp2_with (go_at_call 49; refine (l1Most_any _ _ _).mono ?_; rintro e w' ⟨rfl, rfl⟩)
  go_ret
  simp [he]

set_option maxHeartbeats 1600000 in
set_option maxRecDepth 100000 in
theorem mvPart_any (a b : Int) (ha : 0 ≤ a) (ha2 : a ≤ 9223372036854775807) (hb : 0 < b) (hb2 : b ≤ 9223372036854775807) (w : World) : Calls Tryz.prog 62 #[.int .i64 a, .int .i64 b] w fun e w' => e = .returned (.tuple #[.int .i64 (lwN a b), .int .i64 (lwD a b)]) ∧ Below w.heap.size w w' := by
  obtain ⟨g, hg, hge, -, -, -, -, -, -⟩ := lw_facts ha hb
  have E1 : Hid (lwN a b = a / g) := Lib.hid (by rw [hge]; rfl)
  have E2 : Hid (lwD a b = b / g) := Lib.hid (by rw [hge]; rfl)
  have HGE := Lib.hid hge
  clear hge
  obtain ⟨f1, f2, f3, f4, f5, f6, f7⟩ := div_facts ha ha2 hg
  obtain ⟨g1, g2, g3, g4, g5, g6, g7⟩ := div_facts (by omega : 0 ≤ b) hb2 hg
  clear f3 f5 g1 g3 g5
  obtain ⟨A, rfl⟩ := Int.eq_ofNat_of_zero_le ha
  obtain ⟨B, rfl⟩ := Int.eq_ofNat_of_zero_le (by omega : 0 ≤ b)
  have HG2 : Hid (g = (Nat.gcd A B : Int)) := Lib.hid (by rw [HGE.out]; rfl)
  go_enter Tryz.func62, Tryz.ntmps62
  go_wp2_with (go_at_call 84; refine (l1Abs_any _ (by omega) (by omega) _).mono ?_; rintro e w' ⟨rfl, rfl⟩)
  go_loopw [6, 7, 8] (fun x y _ wr => ∃ u v : Nat, x = .int .i64 u ∧ y = .int .i64 v ∧ Hid (Nat.gcd u v = Nat.gcd A B) ∧ u ≤ 9223372036854775807 ∧ v ≤ 9223372036854775807 ∧ Below w.heap.size w wr) (fun _ y _ _ => (intOf y).toNat)
  case atStart => exact ⟨A, B, rfl, rfl, Lib.hid rfl, by omega, by omega, by (repeat (first | exact Below.refl _ _ | assumption | (refine Below.alloc ?_ (by first | omega | (simp; done) | (simp; omega)) _) | (refine Below.setCell ?_ (by first | omega | (simp; done) | (simp; omega)) _) | (refine Below.drew ?_) | (refine Below.drewN ?_ _) | (refine Below.next (by assumption) ?_ (by first | omega | (simp; done) | (simp; omega)))))⟩
  case round =>
    obtain ⟨u, v, rfl, rfl, HG, hu, hv, hbw⟩ := hrel
    by_cases h0 : v = 0
    · subst h0
      have hug : (u : Int) = g := by rw [HG2.out, ← HG.out, Nat.gcd_zero_right]
      rw [hug]
      clear hug
      go_wp2
      refine wp_region_quiet_below (by kernel_rfl) (by kernel_rfl) ?_
      repeat (first | go_big_quiet_step (fail) | quiet_step (fail))
      refine wpQuiet_nil ?_
      intro _ hw'
      obtain ⟨⟨dq, osq⟩, hw''⟩ := hw'
      subst hw''
      have hb5 := below_regrown (wr) dq osq
      generalize hW2 : grow (redrawn wr dq) osq = W2 at *
      clear hW2
      go_wp2
      go_ret2
      exact ⟨by first | (rw [E1.out, E2.out]; done) | (rw [E1.out, E2.out]; rfl), Below.next hb5 hbw hbw.size⟩
    · have hv0 : ¬ (v : Int) = 0 := by omega
      have hm := tmod_nat u v
      have hml : u % v < v := Nat.mod_lt _ (by omega)
      have hw : IntKind.i64.wrap ((u % v : Nat) : Int) = ((u % v : Nat) : Int) := IntWalk.i64_in _ (by omega)
      have HS := Lib.hid (gcd_step u v)
      generalize hr : u % v = r at *
      clear hr
      go_wp2
      go_roundw
      case rel => exact ⟨v, r, rfl, rfl, Lib.hid (HS.out.trans HG.out), by omega, by omega, hbw⟩
      case measure => simp [intOf]; omega

set_option maxHeartbeats 1600000 in
set_option maxRecDepth 100000 in
theorem lowestTerms_any (a b : Int) (ha : 0 ≤ a) (ha2 : a ≤ 9223372036854775807) (hb : 0 < b) (hb2 : b ≤ 9223372036854775807) (w : World) : Calls Tryz.prog 58 #[.int .i64 a, .int .i64 b] w fun e w' => e = .returned (.tuple #[.int .i64 (lwN a b), .int .i64 (lwD a b)]) ∧ Below w.heap.size w w' := by
  obtain ⟨g, hg, hge, -, -, -, -, -, -⟩ := lw_facts ha hb
  have E1 : Hid (lwN a b = a / g) := Lib.hid (by rw [hge]; rfl)
  have E2 : Hid (lwD a b = b / g) := Lib.hid (by rw [hge]; rfl)
  have HGE := Lib.hid hge
  clear hge
  obtain ⟨f1, f2, f3, f4, f5, f6, f7⟩ := div_facts ha ha2 hg
  obtain ⟨g1, g2, g3, g4, g5, g6, g7⟩ := div_facts (by omega : 0 ≤ b) hb2 hg
  clear f3 f5 g1 g3 g5
  obtain ⟨A, rfl⟩ := Int.eq_ofNat_of_zero_le ha
  obtain ⟨B, rfl⟩ := Int.eq_ofNat_of_zero_le (by omega : 0 ≤ b)
  have HG2 : Hid ((Nat.gcd A B : Int) = g) := Lib.hid (by rw [HGE.out]; rfl)
  go_enter Tryz.func58, Tryz.ntmps58
  go_wp2_with (go_at_call 82; refine (gcdOf_any A B (by omega) (by omega) _).mono ?_; rw [HG2.out]; rintro e W1 ⟨rfl, hq⟩)
  refine wp_region_quiet_below (by kernel_rfl) (by kernel_rfl) ?_
  repeat (first | go_big_quiet_step (fail) | quiet_step (fail))
  refine wpQuiet_nil ?_
  intro _ hw'
  obtain ⟨⟨dq, osq⟩, hw''⟩ := hw'
  subst hw''
  have hb5 := below_regrown (W1) dq osq
  generalize hW2 : grow (redrawn W1 dq) osq = W2 at *
  clear hW2
  go_wp2
  go_ret2
  exact ⟨by first | (rw [E1.out, E2.out]; done) | (rw [E1.out, E2.out]; rfl), Below.next hb5 hq hq.size⟩

theorem lessFr_any (a b c d : Int) (ha : 0 ≤ a) (a1 : a ≤ 9223372036854775807) (hb : 0 ≤ b) (b1 : b ≤ 9223372036854775807) (hc : 0 ≤ c) (c1 : c ≤ 9223372036854775807) (hd : 0 ≤ d) (d1 : d ≤ 9223372036854775807) (w : World) : Calls Tryz.prog 57 #[.int .i64 a, .int .i64 b, .int .i64 c, .int .i64 d] w fun e w' => e = .returned (.bool (fLt (a, b) (c, d))) ∧ w = w' := by
  obtain ⟨A, rfl⟩ := Int.eq_ofNat_of_zero_le ha
  obtain ⟨B, rfl⟩ := Int.eq_ofNat_of_zero_le hb
  obtain ⟨C, rfl⟩ := Int.eq_ofNat_of_zero_le hc
  obtain ⟨D, rfl⟩ := Int.eq_ofNat_of_zero_le hd
  exact lessFraction_any A B C D (by omega) (by omega) (by omega) (by omega) w

def bx (x : Int) : Prop := -20480 ≤ x ∧ x ≤ 20480
def byy (y : Int) : Prop := -10752 ≤ y ∧ y ≤ 10752
theorem part_bd {x y z w : Int} (hx : bx x) (hy : byy y) (hz : bx z) (hw : byy w) :
    ((-838860800 ≤ x * (z - x) ∧ x * (z - x) ≤ 838860800) ∧ (-231211008 ≤ y * (w - y) ∧ y * (w - y) ≤ 231211008) ∧ (-1677721600 ≤ (z - x) * (z - x) ∧ (z - x) * (z - x) ≤ 1677721600) ∧ (-462422016 ≤ (w - y) * (w - y) ∧ (w - y) * (w - y) ≤ 462422016)) ∧
    ((-220200960 ≤ x * w ∧ x * w ≤ 220200960) ∧ (-220200960 ≤ y * z ∧ y * z ≤ 220200960) ∧ (-193954251360993280 ≤ (x * w - y * z) * (x * w - y * z) ∧ (x * w - y * z) * (x * w - y * z) ≤ 193954251360993280)) ∧
    ((-419430400 ≤ x * x ∧ x * x ≤ 419430400) ∧ (-115605504 ≤ y * y ∧ y * y ≤ 115605504) ∧ (-419430400 ≤ z * z ∧ z * z ≤ 419430400) ∧ (-115605504 ≤ w * w ∧ w * w ≤ 115605504)) := by
  obtain ⟨x0, x1⟩ := hx
  obtain ⟨y0, y1⟩ := hy
  obtain ⟨z0, z1⟩ := hz
  obtain ⟨w0, w1⟩ := hw
  have a1 := mul_bd2 (a := x) (b := z - x) (A := 20480) (B := 40960) (by omega) (by omega) (by omega) (by omega)
  have a2 := mul_bd2 (a := y) (b := w - y) (A := 10752) (B := 21504) (by omega) (by omega) (by omega) (by omega)
  have a3 := mul_bd2 (a := z - x) (b := z - x) (A := 40960) (B := 40960) (by omega) (by omega) (by omega) (by omega)
  have a4 := mul_bd2 (a := w - y) (b := w - y) (A := 21504) (B := 21504) (by omega) (by omega) (by omega) (by omega)
  have b1 := mul_bd2 (a := x) (b := w) (A := 20480) (B := 10752) (by omega) (by omega) (by omega) (by omega)
  have b2 := mul_bd2 (a := y) (b := z) (A := 10752) (B := 20480) (by omega) (by omega) (by omega) (by omega)
  have b3 := mul_bd2 (a := x * w - y * z) (b := x * w - y * z) (A := 440401920) (B := 440401920) (by omega) (by omega) (by omega) (by omega)
  have c1 := mul_bd2 (a := x) (b := x) (A := 20480) (B := 20480) (by omega) (by omega) (by omega) (by omega)
  have c2 := mul_bd2 (a := y) (b := y) (A := 10752) (B := 10752) (by omega) (by omega) (by omega) (by omega)
  have c3 := mul_bd2 (a := z) (b := z) (A := 20480) (B := 20480) (by omega) (by omega) (by omega) (by omega)
  have c4 := mul_bd2 (a := w) (b := w) (A := 10752) (B := 10752) (by omega) (by omega) (by omega) (by omega)
  omega
theorem ptF_yes {x y z w : Int} (h1 : 0 < ptN x y z w) (h2 : ptN x y z w < ptD x y z w) : ptF x y z w = (crs x y z w * crs x y z w, ptD x y z w) := by rw [ptF, if_pos ⟨h1, h2⟩]
theorem ptF_no {x y z w : Int} (h : ¬ (0 < ptN x y z w ∧ ptN x y z w < ptD x y z w)) : ptF x y z w = (min (x * x + y * y) (z * z + w * w), 1) := by rw [ptF, if_neg h]
theorem ret_fr {f : Int × Int} {a b : Int} (h : f = (a, b)) : Ending.returned (.tuple #[.int .i64 a, .int .i64 b]) = .returned (.tuple #[.int .i64 f.1, .int .i64 f.2]) := by rw [h]
set_option maxHeartbeats 1600000 in
set_option maxRecDepth 100000 in
theorem rpPart_any (x y z u : Int) (hx : bx x) (hy : byy y) (hz : bx z) (hu : byy u) (w : World) : Calls Tryz.prog 60 #[.int .i64 x, .int .i64 y, .int .i64 z, .int .i64 u] w fun e w' => e = .returned (.tuple #[.int .i64 (ptF x y z u).1, .int .i64 (ptF x y z u).2]) ∧ w = w' := by
  obtain ⟨⟨a1, a2, a3, a4⟩, ⟨b1, b2, b3⟩, ⟨c1, c2, c3, c4⟩⟩ := part_bd hx hy hz hu
  have hn : ptN x y z u = -(x * (z - x) + y * (u - y)) := rfl
  have hd : ptD x y z u = (z - x) * (z - x) + (u - y) * (u - y) := rfl
  obtain ⟨x0, x1⟩ := hx
  obtain ⟨y0, y1⟩ := hy
  obtain ⟨z0, z1⟩ := hz
  obtain ⟨u0, u1⟩ := hu
  by_cases h1 : 0 < -(x * (z - x) + y * (u - y))
  · by_cases h2 : -(x * (z - x) + y * (u - y)) < (z - x) * (z - x) + (u - y) * (u - y)
    · have HF := Lib.hid (ptF_yes (x := x) (y := y) (z := z) (w := u) (by rw [hn]; exact h1) (by rw [hn, hd]; exact h2))
      clear hn hd
      go_enter Tryz.func60, Tryz.ntmps60
      go_wp2
      go_ret2
      exact ⟨ret_fr HF.out, rfl⟩
    · have HF := Lib.hid (ptF_no (x := x) (y := y) (z := z) (w := u) (by rw [hn, hd]; omega))
      clear hn hd
      go_enter Tryz.func60, Tryz.ntmps60
      go_wp2_with (go_at_call 72; refine (l1Least_any _ _ _).mono ?_; rintro e w' ⟨rfl, rfl⟩)
      go_ret2
      exact ⟨ret_fr HF.out, rfl⟩
  · have HF := Lib.hid (ptF_no (x := x) (y := y) (z := z) (w := u) (by rw [hn, hd]; omega))
    clear hn hd
    go_enter Tryz.func60, Tryz.ntmps60
    go_wp2_with (go_at_call 72; refine (l1Least_any _ _ _).mono ?_; rintro e w' ⟨rfl, rfl⟩)
    go_ret2
    exact ⟨ret_fr HF.out, rfl⟩

end Go.Proofs.YthehcjfljjfnmaaGreat
