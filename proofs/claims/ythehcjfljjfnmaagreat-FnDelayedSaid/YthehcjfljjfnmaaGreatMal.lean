/-
  The reference's first least matching: the walk.
-/
import Derived.Test.YthehcjfljjfnmaaGreatMau
import Derived.Test.YthehcjfljjfnmaaGreatBase
namespace Go.Proofs.YthehcjfljjfnmaaGreat
open Go.RowKit

theorem raw_min {k : Nat} (hk : k ≤ 40) : min (IntKind.u64.wrap (k : Int)).toNat 64 = k := by
  have h1 : IntKind.u64.wrap (k : Int) = k := by
    have : IntKind.u64.wrap (k : Int) = (k : Int) % 18446744073709551616 := by
      simp [IntKind.wrap]
      try rfl
    rw [this]
    omega
  rw [h1, Int.toNat_natCast, Nat.min_eq_left (by omega)]
theorem tabTo_at {c : Nat → Nat → Int} {n s P : Nat} (hP : 2 ^ n = P) (hs : s < P) : (tabTo c n P)[s]? = some (TT c n s) := by
  subst hP
  simp [tabTo, TT, hs]
set_option maxRecDepth 100000 in
set_option maxHeartbeats 3200000 in
theorem maLeast_any (A : Option Addr) (cap n : Nat) (hs : List (Option Addr × Nat)) (c : Nat → Nat → Int) (w : World) (hn : 1 ≤ n) (hn2 : n ≤ 12) (hC : Cst w A n hs c) (hc : ∀ i k, i < n → k < n → 0 ≤ c i k ∧ c i k ≤ 2100000) :
    Calls Tryz.prog 103 #[.slice A n cap] w fun e w' => ∃ A' c', e = .returned (.tuple #[.slice A' n c', .int .i64 (TT c n (2 ^ n - 1))]) ∧ w'.ownsRow w.heap.size 3 1 (.slice A' n c') n (ints (mlS c n n).2) ∧ Below w.heap.size w w' := by
  obtain ⟨i0, hi, hz0, hz1, hz2⟩ := info_parts info_int
  have hp := Nat.pow_le_pow_right (show 0 < 2 by omega) hn2
  have hp1 : 1 ≤ 2 ^ n := Nat.one_le_two_pow
  obtain ⟨P, hP⟩ : ∃ P : Nat, 2 ^ n = P := ⟨_, rfl⟩
  rw [hP] at hp hp1
  have hP12 : P ≤ 4096 := hp
  have HP := Lib.hid hP
  rw [hP]
  have HC := Lib.hid hC
  have HB := Lib.hid hc
  clear hC hc hP hp
  go_enter Tryz.func103, Tryz.ntmps103
  go_wp2_with fail
  refine (maTable_any A cap n hs c w hn hn2 HC.out HB.out).mono ?_
  rintro e w1 ⟨g, rfl, ho, hq⟩
  rw [HP.out] at ho ⊢
  have HT := Lib.hid ho
  have HQ := Lib.hid hq
  obtain ⟨_, eg, hg1, hg2⟩ := own_addr ho (by omega)
  cases eg
  have zz : w.heap.size ≤ w1.heap.size := hq.size
  clear ho hq
  go_wp2
  go_loopw [5, 6, 19] (fun st out i wr => ∃ r : Nat, r ≤ n ∧ i = .int .i64 r ∧ st = .int .i64 (mlS c n r).1 ∧ wr.ownsRow w1.heap.size 3 1 out r (ints (mlS c n r).2) ∧ Below w1.heap.size w1 wr) (fun _ _ i _ => n - (intOf i).toNat)
  case atStart =>
    have e : (mlS c n 0).1 = P - 1 := by show 2 ^ n - 1 = _; rw [HP.out]
    exact ⟨0, by omega, rfl, by rw [e]; congr 1; omega, World.ownsRow_nil _ _ _ _, Below.refl _ _⟩
  case round =>
    obtain ⟨r, hr, rfl, rfl, hown, hb⟩ := hrel
    have HO := Lib.hid hown
    have HB2 := Lib.hid hb
    have hsp := mlS_spec (c := c) hn2 HB.out r hr
    clear hown hb
    by_cases hrn : r < n
    · obtain ⟨s1, s2, s3⟩ := hsp
      rw [HP.out] at s1
      have S2 := Lib.hid s2
      obtain ⟨S, hS⟩ : ∃ S, (mlS c n r).1 = S := ⟨_, rfl⟩
      rw [hS] at s1 S2 ⊢
      have HSS := Lib.hid hS
      have hS62 : S < 4611686018427387904 := by omega
      obtain ⟨b, off, B, d, rfl, e0, hrow⟩ := HC.out.row hrn
      have hBW : Below w.heap.size w wr := HQ.out.trans (HB2.out.mono zz)
      have e1 := keep1 hBW e0
      have HROW := Lib.hid (hrow.below hBW)
      have HT2 := Lib.hid (own_below HT.out HB2.out)
      have HBW := Lib.hid hBW
      clear s2 s3 hS hrow e0 hBW
      go_wp2
      clear e1
      go_loopw [9, 25] (fun bv i wx => ∃ k : Nat, k ≤ n ∧ i = .int .i64 k ∧ bv = .int .i64 (mlB c n r S k) ∧ ∃ dd, wx = wr.drewN dd) (fun _ i _ => n - (intOf i).toNat)
      case atStart => exact ⟨0, by omega, rfl, rfl, 0, rfl⟩
      case round =>
        obtain ⟨k, hk, rfl, rfl, dd, rfl⟩ := hrel
        by_cases hkn : k < n
        · have hck : ((List.range n).map (c r))[k]? = some (c r k) := by simp [hkn]
          obtain ⟨bB, oB, rfl, e2⟩ := HROW.out.int hck
          have hcb := HB.out r k hrn hkn
          obtain ⟨ck, hckv⟩ : ∃ v, c r k = v := ⟨_, rfl⟩
          rw [hckv] at e2 hcb
          have HCK := Lib.hid hckv
          have e3 : (wr.drewN dd).cell? ⟨bB, oB + k, none⟩ = some (.int .i64 ck) := e2
          clear hck e2 hckv
          obtain ⟨mb, hmb⟩ : ∃ v, mlB c n r S k = v := ⟨_, rfl⟩
          have HMB := Lib.hid hmb
          rw [hmb]
          have HMS := Lib.hid (show mlB c n r S (k + 1) = if mb < 0 ∧ S.testBit k = true ∧ ck + TT c n (S ^^^ 2 ^ k) = TT c n S then (k : Int) else mb by rw [mlB, hmb, HCK.out])
          clear hmb
          by_cases hneg : mb < 0
          · cases htb : S.testBit k
            · have hbit := bit_no hS62 htb
              have HM2 := Lib.hid (show mlB c n r S (k + 1) = mb by rw [HMS.out, if_neg (fun h => by rw [htb] at h; exact absurd h.2.1 (by simp))])
              clear htb
              go_wp2
              go_quiet (fail)
              go_wp2
              go_roundw
              case rel => exact ⟨k + 1, by omega, by go_num, by rw [HM2.out], _, rfl⟩
              case measure => simp [intOf]; omega
            · have hbit := bit_yes hS62 htb
              have hxl : S ^^^ 2 ^ k < S := xor_lt htb
              have hxor := bit_xor hS62 (show k ≤ 40 by omega)
              obtain ⟨x, hx⟩ : ∃ x, S ^^^ 2 ^ k = x := ⟨_, rfl⟩
              rw [hx] at hxl hxor HMS
              have hxP : x < P := by omega
              have hraw := raw_shift (k := k) (by omega)
              have hbit2 : bits .and .i64 ((S : Int) / 2 ^ min (IntKind.u64.wrap (k : Int)).toNat 64) 1 = 1 := by rw [raw_min (by omega)]; exact hbit
              have hxor2 : bits .xor .i64 (S : Int) (IntKind.i64.wrap (2 ^ min (IntKind.u64.wrap (k : Int)).toNat 64)) = (x : Int) := by rw [hraw]; exact hxor
              obtain ⟨tx, htx⟩ : ∃ v, TT c n x = v := ⟨_, rfl⟩
              obtain ⟨ts, hts⟩ : ∃ v, TT c n S = v := ⟨_, rfl⟩
              have hbx : 0 ≤ tx ∧ tx ≤ 1000000000 := by rw [← htx]; exact tab_bd HB.out _ x (pop_le n x)
              have hbs : 0 ≤ ts ∧ ts ≤ 1000000000 := by rw [← hts]; exact tab_bd HB.out _ S (pop_le n S)
              have hsum : IntKind.i64.wrap (ck + tx) = ck + tx := IntWalk.i64_in _ (by omega)
              obtain ⟨_, _, eq1, g1⟩ := Mem.int (Mem.of_own HT2.out) (tabTo_at (c := c) HP.out s1)
              cases eq1
              obtain ⟨_, _, eq2, g2⟩ := Mem.int (Mem.of_own HT2.out) (tabTo_at (c := c) HP.out hxP)
              cases eq2
              rw [Nat.zero_add] at g1 g2
              rw [hts] at g1 HMS
              rw [htx] at g2 HMS
              have g1' : (wr.drewN dd).cell? ⟨g, S, none⟩ = some (.int .i64 ts) := g1
              have g2' : (wr.drewN dd).cell? ⟨g, x, none⟩ = some (.int .i64 tx) := g2
              have hxPi : (x : Int) < (P : Int) := by omega
              have hSPi : (S : Int) < (P : Int) := by omega
              have HTB := Lib.hid htb
              clear hx htx hts hraw htb g1' g2'
              by_cases hcmp : ck + tx = ts
              · have hc1 : (ck + tx == ts) = true := by simp [hcmp]
                have HM2 := Lib.hid (show mlB c n r S (k + 1) = (k : Int) by rw [HMS.out, if_pos ⟨hneg, HTB.out, hcmp⟩])
                have HCC := Lib.hid hcmp
                clear hcmp
                go_wp2
                go_quiet (fail)
                go_wp2
                go_roundw
                case rel => exact ⟨k + 1, by omega, by go_num, by rw [HM2.out], _, rfl⟩
                case measure => simp [intOf]; omega
              · have hc1 : (ck + tx == ts) = false := beq_eq_false_iff_ne.2 hcmp
                have HM2 := Lib.hid (show mlB c n r S (k + 1) = mb by rw [HMS.out, if_neg (fun h => hcmp h.2.2)])
                go_wp2
                go_quiet (fail)
                go_wp2
                go_roundw
                case rel => exact ⟨k + 1, by omega, by go_num, by rw [HM2.out], _, rfl⟩
                case measure => simp [intOf]; omega
          · have hd : decide (mb < 0) = false := by simpa using hneg
            have HM2 := Lib.hid (show mlB c n r S (k + 1) = mb by rw [HMS.out, if_neg (fun h => hneg h.1)])
            go_wp2
            go_quiet (fail)
            go_wp2
            go_roundw
            case rel => exact ⟨k + 1, by omega, by go_num, by rw [HM2.out], _, rfl⟩
            case measure => simp [intOf]; omega
        · obtain rfl : k = n := by omega
          obtain ⟨q, q1, q2, q3⟩ := mlB_some (c := c) hn2 hrn HB.out S2.out
          rcases mlB_spec (c := c) (n := k) (i := r) (S := S) k with ⟨_, f2⟩ | ⟨j, f1, f2, f3, f4, f5⟩
          · exact absurd ⟨q2, q3⟩ (f2 q q1)
          · have hxor := bit_xor hS62 (show j ≤ 40 by omega)
            have HNX := Lib.hid (show mlS c k (r + 1) = (S ^^^ 2 ^ j, (mlS c k r).2 ++ [(j : Int)]) by rw [mlS, HSS.out, f2]; rfl)
            rw [f2]
            have HOO := Lib.hid (own_below HO.out (Below.drewN (Below.refl wr.heap.size wr) dd))
            have hzz : w1.heap.size ≤ wr.heap.size := HB2.out.size
            obtain ⟨x, hx⟩ : ∃ x, S ^^^ 2 ^ j = x := ⟨_, rfl⟩
            rw [hx] at hxor HNX
            clear f4 f5 q1 q2 q3 hx f2 f3
            go_wp2_with (at_builtin; refine wpList_append_one _ rfl (.tmp 59) (.tmp 61) 32 rfl w1.heap.size 3 i0 (.int .i64 0) 1 8 Tryz.underlying32 hi hz0 hz1 hz2 rfl (by omega) _ _ _ rfl HOO.out _ _ _ rfl rfl rfl (by omega) (by omega) (by simp; omega) ?_; intro v' w7 hown' hb7)
            go_roundw
            case rel => exact ⟨r + 1, by omega, by go_num, by rw [HNX.out], by rw [HNX.out, ints_snoc]; exact hown', (Below.drewN HB2.out dd).trans hb7⟩
            case measure => simp [intOf]; omega
    · obtain rfl : n = r := by omega
      have hP1 : P - 1 < P := by omega
      obtain ⟨ts, hts⟩ : ∃ v, TT c n (P - 1) = v := ⟨_, rfl⟩
      have HT2 := Lib.hid (own_below HT.out HB2.out)
      obtain ⟨_, _, eq1, g1⟩ := Mem.int (Mem.of_own HT2.out) (tabTo_at (c := c) HP.out hP1)
      cases eq1
      rw [Nat.zero_add, hts] at g1
      have HTS := Lib.hid hts
      obtain ⟨A', c', rfl⟩ := own_form HO.out
      have hcast : (P : Int) - 1 = ((P - 1 : Nat) : Int) := by omega
      clear hts hsp
      go_wp2
      go_quiet (fail)
      go_wp2
      go_ret2
      exact ⟨A', c', by rw [HTS.out]; rfl, own_base (own_below HO.out (Below.drewN (Below.refl wr.heap.size wr) _)) zz, Below.drewN (HQ.out.trans (HB2.out.mono zz)) _⟩
end Go.Proofs.YthehcjfljjfnmaaGreat
