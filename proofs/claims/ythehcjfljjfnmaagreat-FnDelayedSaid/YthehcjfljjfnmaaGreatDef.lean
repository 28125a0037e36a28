/-
  Contracts: fractions (less than, in lowest terms), parts of ways.
-/
import Derived.Test.YthehcjfljjfnmaaGreatDel
import Derived.Shelf.Bits.Mul64
namespace Go.Proofs.YthehcjfljjfnmaaGreat
open Go.RowKit Go.Sort Go.Lib

set_option maxHeartbeats 1000000 in
set_option maxRecDepth 100000 in
theorem mul64_any (x y : Nat) (hx : x < 18446744073709551616) (hy : y < 18446744073709551616) (w : World) :
    Calls Tryz.prog 81 #[.int .u64 x, .int .u64 y] w fun e w' => e = .returned (.tuple #[.int .u64 ((x * y / 18446744073709551616 : Nat) : Int), .int .u64 ((x * y % 18446744073709551616 : Nat) : Int)]) ∧ w = w' := by
  obtain ⟨bd, bt, bw, hhi⟩ := Lib.mul64_hi x y hx hy
  have ba := Lib.half_mul_le (a := x / 4294967296) (b := y / 4294967296) (by omega) (by omega)
  have bb := Lib.half_mul_le (a := x / 4294967296) (b := y % 4294967296) (by omega) (by omega)
  have bc := Lib.half_mul_le (a := x % 4294967296) (b := y / 4294967296) (by omega) (by omega)
  have ba' : x / 4294967296 * (y / 4294967296) < 18446744073709551616 := by omega
  have bb' : x / 4294967296 * (y % 4294967296) < 18446744073709551616 := by omega
  have bc' : x % 4294967296 * (y / 4294967296) < 18446744073709551616 := by omega
  have bh1 : x / 4294967296 * (y / 4294967296) + (x / 4294967296 * (y % 4294967296) + x % 4294967296 * (y % 4294967296) / 4294967296) / 4294967296 < 18446744073709551616 := by omega
  have bh : x / 4294967296 * (y / 4294967296) + (x / 4294967296 * (y % 4294967296) + x % 4294967296 * (y % 4294967296) / 4294967296) / 4294967296 + ((x / 4294967296 * (y % 4294967296) + x % 4294967296 * (y % 4294967296) / 4294967296) % 4294967296 + x % 4294967296 * (y / 4294967296)) / 4294967296 < 18446744073709551616 := by omega
  go_enter Tryz.func81, Tryz.ntmps81
  go_wp2
  simp only [Mul64.maskN x hx, Mul64.maskN y hy, Mul64.divN, Mul64.mulN, Mul64.addN, Mul64.wrapN _ bd, Mul64.wrapN _ bb', Mul64.wrapN _ bt, Mul64.maskN _ bt, Mul64.wrapN _ bc', Mul64.wrapN _ bw, Mul64.wrapN _ ba', Mul64.wrapN _ bh1, Mul64.wrapN _ bh, Mul64.wrapM (x * y)]
  rw [hhi]
  go_ret2
  exact ⟨rfl, rfl⟩

theorem halves_lt (P Q : Nat) : P < Q ↔ P / 18446744073709551616 < Q / 18446744073709551616 ∨ (P / 18446744073709551616 = Q / 18446744073709551616 ∧ P % 18446744073709551616 < Q % 18446744073709551616) := by omega
set_option maxRecDepth 100000 in
theorem lessFraction_any (A B C D : Nat) (ha : A < 9223372036854775808) (hb : B < 9223372036854775808) (hc : C < 9223372036854775808) (hd : D < 9223372036854775808) (w : World) : Calls Tryz.prog 57 #[.int .i64 A, .int .i64 B, .int .i64 C, .int .i64 D] w fun e w' => e = .returned (.bool (fLt ((A : Int), (B : Int)) ((C : Int), (D : Int)))) ∧ w = w' := by
  have hf : fLt ((A : Int), (B : Int)) ((C : Int), (D : Int)) = decide (A * D / 18446744073709551616 < C * B / 18446744073709551616 ∨ (A * D / 18446744073709551616 = C * B / 18446744073709551616 ∧ A * D % 18446744073709551616 < C * B % 18446744073709551616)) := by
    simp only [fLt, ← Int.natCast_mul, Int.ofNat_lt]
    exact decide_eq_decide.2 (halves_lt _ _)
  rw [hf]
  generalize hP : A * D = P
  generalize hQ : C * B = Q
  have c1 := Lib.hid (fun w => mul64_any A D (by omega) (by omega) w)
  have c2 := Lib.hid (fun w => mul64_any C B (by omega) (by omega) w)
  rw [hP] at c1
  rw [hQ] at c2
  clear hf hP hQ
  generalize hp1 : P / 18446744073709551616 = p1
  generalize hp2 : P % 18446744073709551616 = p2
  generalize hq1 : Q / 18446744073709551616 = q1
  generalize hq2 : Q % 18446744073709551616 = q2
  rw [hp1, hp2] at c1
  rw [hq1, hq2] at c2
  clear hp1 hp2 hq1 hq2
  by_cases h1 : p1 < q1
  · go_enter Tryz.func57, Tryz.ntmps57
    go_wp2_with (go_at_call 81; first | (with_reducible refine (c1.out _).mono ?_; rintro e w' ⟨rfl, rfl⟩) | (with_reducible refine (c2.out _).mono ?_; rintro e w' ⟨rfl, rfl⟩))
    go_ret
    simp [h1]
  by_cases h2 : p1 = q1
  · subst h2
    by_cases h3 : p2 < q2
    all_goals
      go_enter Tryz.func57, Tryz.ntmps57
      go_wp2_with (go_at_call 81; first | (with_reducible refine (c1.out _).mono ?_; rintro e w' ⟨rfl, rfl⟩) | (with_reducible refine (c2.out _).mono ?_; rintro e w' ⟨rfl, rfl⟩))
      go_ret
      simp [h3]
  · go_enter Tryz.func57, Tryz.ntmps57
    go_wp2_with (go_at_call 81; first | (with_reducible refine (c1.out _).mono ?_; rintro e w' ⟨rfl, rfl⟩) | (with_reducible refine (c2.out _).mono ?_; rintro e w' ⟨rfl, rfl⟩))
    go_ret
    simp [h1, h2]

theorem apLess_iff {a b c d : Int} (ha : 0 ≤ a) (hc : 0 ≤ c) (hb : 0 < b) (hd : 0 < d) : (a * d < c * b) ↔ (a / b < c / d ∨ (a / b = c / d ∧ a % b * d < c % d * b)) := by
  have e1 : a * d = (a / b) * (b * d) + a % b * d := by
    have := Int.mul_ediv_add_emod a b
    calc a * d = (b * (a / b) + a % b) * d := by rw [this]
      _ = _ := by grind
  have e2 : c * b = (c / d) * (b * d) + c % d * b := by
    have := Int.mul_ediv_add_emod c d
    calc c * b = (d * (c / d) + c % d) * b := by rw [this]
      _ = _ := by grind
  have r1 := Int.emod_nonneg a (by omega : b ≠ 0)
  have r2 := Int.emod_lt_of_pos a hb
  have r3 := Int.emod_nonneg c (by omega : d ≠ 0)
  have r4 := Int.emod_lt_of_pos c hd
  have s1 : 0 ≤ a % b * d := Int.mul_nonneg r1 (by omega)
  have s2 : a % b * d < b * d := Int.mul_lt_mul_of_pos_right r2 hd
  have s3 : 0 ≤ c % d * b := Int.mul_nonneg r3 (by omega)
  have s4 : c % d * b < b * d := by rw [Int.mul_comm b d]; exact Int.mul_lt_mul_of_pos_right r4 hb
  rw [e1, e2]
  generalize a / b = x at *
  generalize c / d = y at *
  generalize a % b * d = u at *
  generalize c % d * b = v at *
  have hm : 0 < b * d := Int.mul_pos hb hd
  generalize b * d = m at *
  clear e1 e2
  constructor
  · intro h
    rcases Int.lt_trichotomy x y with k | k | k
    · exact .inl k
    · subst k; exact .inr ⟨rfl, by omega⟩
    · have : (y + 1) * m ≤ x * m := Int.mul_le_mul_of_nonneg_right (by omega) (by omega)
      rw [Int.add_mul] at this
      omega
  · rintro (h | ⟨rfl, h⟩)
    · have : (x + 1) * m ≤ y * m := Int.mul_le_mul_of_nonneg_right (by omega) (by omega)
      rw [Int.add_mul] at this
      omega
    · omega
theorem div_facts {a b : Int} (ha : 0 ≤ a) (h1 : a ≤ 9223372036854775807) (hb : 0 < b) : ¬ b = 0 ∧ a.tdiv b = a / b ∧ a.tmod b = a % b ∧ IntKind.i64.wrap (a / b) = a / b ∧ IntKind.i64.wrap (a % b) = a % b ∧ 0 ≤ a / b ∧ a / b ≤ a := by
  have h2 : 0 ≤ a / b := Int.ediv_nonneg ha (by omega)
  have h3 : a / b ≤ a := Int.ediv_le_self _ ha
  have r1 := Int.emod_nonneg a (by omega : b ≠ 0)
  have r2 : a % b ≤ a := by
    have e := Int.mul_ediv_add_emod a b
    have := Int.mul_nonneg (by omega : 0 ≤ b) h2
    omega
  exact ⟨by omega, Int.tdiv_eq_ediv_of_nonneg ha, Int.tmod_eq_emod_of_nonneg ha, IntWalk.i64_in _ (by omega), IntWalk.i64_in _ (by omega), h2, h3⟩
set_option maxRecDepth 100000 in
theorem apLess_any (a b c d : Int) (ha : 0 ≤ a) (a1 : a ≤ 9223372036854775807) (hc : 0 ≤ c) (c1 : c ≤ 9223372036854775807) (hb : 0 < b) (b1 : b ≤ 2200000000) (hd : 0 < d) (d1 : d ≤ 2200000000) (w : World) : Calls Tryz.prog 61 #[.int .i64 a, .int .i64 b, .int .i64 c, .int .i64 d] w fun e w' => e = .returned (.bool (fLt (a, b) (c, d))) ∧ Below w.heap.size w w' := by
  have hf : fLt (a, b) (c, d) = decide (a / b < c / d ∨ (a / b = c / d ∧ a % b * d < c % d * b)) := by
    simp only [fLt, apLess_iff ha hc hb hd]
  rw [hf]
  obtain ⟨f1, f2, f3, f4, f5, f6, f7⟩ := div_facts ha a1 hb
  obtain ⟨g1, g2, g3, g4, g5, g6, g7⟩ := div_facts hc c1 hd
  have r1 := Int.emod_nonneg a f1
  have r2 := Int.emod_lt_of_pos a hb
  have r3 := Int.emod_nonneg c g1
  have r4 := Int.emod_lt_of_pos c hd
  have s1 := mul_bd r1 (by omega : a % b ≤ 2200000000) (by omega : 0 ≤ d) d1
  have s3 := mul_bd r3 (by omega : c % d ≤ 2200000000) (by omega : 0 ≤ b) b1
  have w1 : IntKind.i64.wrap (a % b * d) = a % b * d := IntWalk.i64_in _ (by omega)
  have w2 : IntKind.i64.wrap (c % d * b) = c % d * b := IntWalk.i64_in _ (by omega)
  clear hf s1 s3 r1 r2 r3 r4
  by_cases h1 : a / b = c / d
  · by_cases h2 : a % b * d < c % d * b
    all_goals
      go_enter Tryz.func61, Tryz.ntmps61
      go_wp2
      refine wp_region_quiet_below (by kernel_rfl) (by kernel_rfl) ?_
      repeat (first | go_big_quiet_step (fail) | quiet_step (fail))
      refine wpQuiet_nil ?_
      intro _ hw'
      obtain ⟨⟨dq, osq⟩, hw''⟩ := hw'
      subst hw''
      have hb5 := below_regrown (w) dq osq
      generalize grow (redrawn w dq) osq = W2 at *
      go_wp2
      refine wp_region_quiet_below (by kernel_rfl) (by kernel_rfl) ?_
      repeat (first | go_big_quiet_step (fail) | quiet_step (fail))
      refine wpQuiet_nil ?_
      intro _ hw'
      obtain ⟨⟨dq, osq⟩, hw''⟩ := hw'
      subst hw''
      have hb6 := below_regrown (W2) dq osq
      generalize grow (redrawn W2 dq) osq = W3 at *
      go_wp2
      go_ret
      exact ⟨ret_bool (by simp [h1, h2]), Below.next hb6 hb5 hb5.size⟩
  · by_cases h2 : a / b < c / d
    all_goals
      go_enter Tryz.func61, Tryz.ntmps61
      go_wp2
      refine wp_region_quiet_below (by kernel_rfl) (by kernel_rfl) ?_
      repeat (first | go_big_quiet_step (fail) | quiet_step (fail))
      refine wpQuiet_nil ?_
      intro _ hw'
      obtain ⟨⟨dq, osq⟩, hw''⟩ := hw'
      subst hw''
      have hb5 := below_regrown (w) dq osq
      generalize grow (redrawn w dq) osq = W2 at *
      go_wp2
      refine wp_region_quiet_below (by kernel_rfl) (by kernel_rfl) ?_
      repeat (first | go_big_quiet_step (fail) | quiet_step (fail))
      refine wpQuiet_nil ?_
      intro _ hw'
      obtain ⟨⟨dq, osq⟩, hw''⟩ := hw'
      subst hw''
      have hb6 := below_regrown (W2) dq osq
      generalize grow (redrawn W2 dq) osq = W3 at *
      go_wp2
      go_ret
      exact ⟨ret_bool (by simp [h1, h2]), Below.next hb6 hb5 hb5.size⟩

end Go.Proofs.YthehcjfljjfnmaaGreat
