/-
  Draws: strings of a list, spoilt strings.
-/
import Derived.Test.YtdmgffcabjpihaaGreatDoorDsz
import Derived.Test.YtdmgffcabjpihaaGreatDoorStx
import Derived.Test.YtdmgffcabjpihaaGreatDoorPsa
import Derived.BigQuiet
namespace Go.Proofs.YtdmgffcabjpihaaGreatDoor
open Go.RowKit

/-- A string of at most m bytes is drawn. -/
def Dstr (g k m : Nat) (w : World) (e : Ending) (w' : World) : Prop := ∃ t : List UInt8, e = .returned (.string (bs t)) ∧ t.length ≤ m ∧ Cur w' g k ∧ Oth g w w'
set_option maxRecDepth 100000 in
theorem of_any (g k b n c m : Nat) (cs : Array Value) (L : List (List UInt8)) (w : World) (h : Cur w g k) (hk : k ≤ 900000) (hB : Blk w b cs 9) (hcs : cs = (L.map fun x => Value.string (bs x)).toArray) (hn : n = L.length) (hne : b ≠ g) (h0 : 0 < L.length) (h1 : L.length ≤ 65536)
    (hL : ∀ x ∈ L, x.length ≤ m) : Calls Tryz.prog 45 #[.pointer (some ⟨g, 0, none⟩), .slice (some ⟨b, 0, none⟩) n c] w (Dstr g (k + 2) m w) := by
  subst hn
  have HL := Lib.hid hL
  have HB := Lib.hid hB
  have HS := Lib.hid hcs
  clear hL hB hcs
  go_enter Tryz.func45, Tryz.ntmps45
  go_wp2_with fail
  refine (pick_any g k _ _ ((L.length : Int) - 1) h hk (by omega) (by omega) (by omega)).mono ?_
  rintro e w1 ⟨x, rfl, x0, x1, hc1, ho1⟩
  have HO := Lib.hid ho1
  have HC := Lib.hid hc1
  clear ho1 h hc1
  obtain ⟨j, rfl⟩ := Int.eq_ofNat_of_zero_le x0
  have hj : j < L.length := by omega
  obtain ⟨y, hy⟩ := some_of_lt hj
  have hy2 := Lib.hid (HL.out y (List.mem_of_getElem? hy))
  have hcell : w1.cell? ⟨b, j, none⟩ = some (.string (bs y)) := by
    rw [(HO.out.blk HB.out hne).cell j, HS.out]
    simp [hy]
  have HY := Lib.hid hy
  clear hy
  go_wp2
  go_ret
  exact ⟨y, rfl, hy2.out, HC.out, HO.out⟩
theorem conv_b (x : UInt8) (b : Nat) (w : World) (h : w.cell? ⟨b, 0, none⟩ = some (.int .u8 x.toNat)) : Sem.run Tryz.prog (convert 22 9 (.slice (some ⟨b, 0, none⟩) 1 1)) w = .ok (.string (bs [x])) w := by
  have := conv_one (x.toNat : Int) (by omega) (by have := x.toNat_lt; omega) b w h
  rw [this]
  simp
set_option maxRecDepth 100000 in
set_option maxHeartbeats 6400000 in
theorem spoilt_any (g k : Nat) (t z : List UInt8) (w : World) (h : Cur w g k) (hk : k ≤ 800000) (ht : t.length ≤ 60000) (hz0 : 0 < z.length) (hz1 : z.length ≤ 60000) : Calls Tryz.prog 47 #[.pointer (some ⟨g, 0, none⟩), .string (bs t), .string (bs z)] w (Dstr g (k + 20) (t.length + 2) w) := by
  have zs := bs_size z
  go_enter Tryz.func47, Tryz.ntmps47
  go_wp2_with fail
  refine (pick_any g k 2 _ 1 h (by omega) (by omega) (by omega) (by omega)).mono ?_
  rintro e w1 ⟨n, rfl, n0, n1, hc1, ho1⟩
  have HO := Lib.hid ho1
  have HC := Lib.hid hc1
  clear ho1 h hc1
  go_wp2_with fail
  go_loopw [1, 7, 8, 9, 44, 55] (fun tv nv _ _ _ _ wr => ∃ (u : List UInt8) (r q : Nat), tv = .string (bs u) ∧ nv = .int .i64 r ∧ r + q ≤ 2 ∧ u.length ≤ t.length + q ∧ Cur wr g (k + 2 + 6 * q) ∧ Oth g w wr) (fun _ nv _ _ _ _ _ => (intOf nv).toNat)
  case atStart => exact ⟨t, (1 + n).toNat, 0, rfl, by congr 1; omega, by omega, by omega, HC.out, HO.out⟩
  case round =>
    obtain ⟨u, r, q, rfl, rfl, hrq, hu, hc, ho⟩ := hrel
    have us := bs_size u
    have HC1 := Lib.hid hc
    have HO1 := Lib.hid ho
    clear hc ho
    by_cases h1 : 0 < r ∧ 0 < u.length
    · obtain ⟨h1, h2⟩ := h1
      have h1' : (0 : Int) < r := by omega
      go_wp2_with fail
      refine (pick_any g (k + 2 + 6 * q) _ _ ((u.length : Int) - 1) HC1.out (by omega) (by omega) (by omega) (by omega)).mono ?_
      rintro e w2 ⟨x, rfl, x0, x1, hc2, ho2⟩
      obtain ⟨i, rfl⟩ := Int.eq_ofNat_of_zero_le x0
      have HC2 := Lib.hid hc2
      have HO2 := Lib.hid (HO1.out.trans ho2)
      clear hc2 ho2 HC1 HO1
      go_wp2_with fail
      refine (pick_any g (k + 2 + 6 * q + 2) _ _ ((z.length : Int) - 1) HC2.out (by omega) (by omega) (by omega) (by omega)).mono ?_
      rintro e w3 ⟨y, rfl, y0, y1, hc3, ho3⟩
      obtain ⟨j, rfl⟩ := Int.eq_ofNat_of_zero_le y0
      have HC3 := Lib.hid hc3
      have HO3 := Lib.hid (HO2.out.trans ho3)
      clear hc3 ho3 HC2 HO2
      have hj : j < (bs z).size := by omega
      obtain ⟨X, hX⟩ : ∃ X, (bs z)[j] = X := ⟨_, rfl⟩
      have hcv := conv_b X
      go_wp2_with fail
      clear hcv hX hj
      refine (pick_any g (k + 2 + 6 * q + 2 + 2) 3 _ 2 (HC3.out.alloc _) (by omega) (by omega) (by omega) (by omega)).mono ?_
      rintro e w4 ⟨y2, rfl, z0, z1, hc4, ho4⟩
      have HC4 := Lib.hid hc4
      have HO4 := Lib.hid ((HO3.out.alloc _).trans ho4)
      clear hc4 ho4 HC3 HO3
      have E1 : (bs u).extract 0 i = bs (u.take i) := by rw [bs_cut]; simp
      have E2 : (bs u).extract i u.length = bs (u.drop i) := by rw [bs_cut]; simp
      have E3 : (bs u).extract (i + 1) u.length = bs (u.drop (i + 1)) := by rw [bs_cut]; simp
      have s1 : (bs (u.take i)).size ≤ 70000 := by rw [bs_size]; simp; omega
      have s2 : (bs (u.drop i)).size ≤ 70000 := by rw [bs_size]; simp; omega
      have s3 : (bs (u.drop (i + 1))).size ≤ 70000 := by rw [bs_size]; simp; omega
      have sX : (bs [X]).size ≤ 1 := by rw [bs_size]; simp
      obtain ⟨A, hA⟩ : ∃ A, A = u.take i ++ [X] := ⟨_, rfl⟩
      have EA : bs (u.take i) ++ bs [X] = bs A := by rw [bs_append, hA]
      have sA : (bs A).size ≤ 70001 := by rw [bs_size, hA]; simp; omega
      obtain ⟨B1, hB1⟩ : ∃ B, B = A ++ u.drop i := ⟨_, rfl⟩
      obtain ⟨B2, hB2⟩ : ∃ B, B = A ++ u.drop (i + 1) := ⟨_, rfl⟩
      obtain ⟨B3, hB3⟩ : ∃ B, B = u.take i ++ u.drop (i + 1) := ⟨_, rfl⟩
      have EB1 : bs A ++ bs (u.drop i) = bs B1 := by rw [bs_append, hB1]
      have EB2 : bs A ++ bs (u.drop (i + 1)) = bs B2 := by rw [bs_append, hB2]
      have EB3 : bs (u.take i) ++ bs (u.drop (i + 1)) = bs B3 := by rw [bs_append, hB3]
      have L1 : B1.length ≤ u.length + 1 := by rw [hB1, hA]; simp; omega
      have L2 : B2.length ≤ u.length + 1 := by rw [hB2, hA]; simp; omega
      have L3 : B3.length ≤ u.length + 1 := by rw [hB3]; simp; omega
      clear hA hB1 hB2 hB3
      have hi' : i ≤ u.length := by omega
      by_cases c0 : y2 = 0
      · subst c0
        go_wp2_with fail
        go_region
        go_wp2
        go_roundw
        case rel => exact ⟨B1, r - 1, q + 1, rfl, by go_num, by omega, by omega, HC4.out.mono (by omega), HO4.out.drew⟩
        case measure => simp [intOf]; omega
      by_cases c1 : y2 = 1
      · subst c1
        go_wp2_with fail
        go_region
        go_wp2
        go_roundw
        case rel => exact ⟨B2, r - 1, q + 1, rfl, by go_num, by omega, by omega, HC4.out.mono (by omega), HO4.out.drew⟩
        case measure => simp [intOf]; omega
      · go_wp2_with fail
        go_region
        go_wp2
        go_roundw
        case rel => exact ⟨B3, r - 1, q + 1, rfl, by go_num, by omega, by omega, HC4.out.mono (by omega), HO4.out.drew⟩
        case measure => simp [intOf]; omega
    · by_cases h2 : 0 < r
      · have h3 : u.length = 0 := by omega
        have h4 : ¬ (0 : Int) < (u.length : Int) := by omega
        have h2' : (0 : Int) < r := by omega
        clear h1 h3
        go_wp2
        go_ret
        exact ⟨u, rfl, by omega, HC1.out.mono (by omega), HO1.out⟩
      · have h3 : ¬ (0 : Int) < r := by omega
        clear h1
        go_wp2
        go_ret
        exact ⟨u, rfl, by omega, HC1.out.mono (by omega), HO1.out⟩
end Go.Proofs.YtdmgffcabjpihaaGreatDoor
