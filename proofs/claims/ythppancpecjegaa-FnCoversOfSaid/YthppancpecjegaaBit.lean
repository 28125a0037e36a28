/-
  Bits of machine integers as bits of natural numbers; the bits of a list's numbers.
-/
import Derived.Test.YthppancpecjegaaAbp
import Derived.IntWalk
import Derived.Laws.Bits64b
namespace Go.Proofs.Ythppancpecjegaa
open Go.RowKit

theorem ofInt_nat {a : Nat} (ha : a < 4611686018427387904) : (BitVec.ofInt 64 (a : Int)).toNat = a := by
  rw [BitVec.ofInt_natCast, BitVec.toNat_ofNat]
  exact Nat.mod_eq_of_lt (by omega)
theorem and_i64 {a b : Nat} (ha : a < 4611686018427387904) (hb : b < 4611686018427387904) : bits .and .i64 (a : Int) (b : Int) = ((a &&& b : Nat) : Int) := by
  have hx : a &&& b < 2 ^ 62 := Nat.and_lt_two_pow _ (by omega)
  show IntKind.i64.wrap ((BitVec.ofInt 64 (a : Int) &&& BitVec.ofInt 64 (b : Int)).toNat : Int) = _
  rw [BitVec.toNat_and, ofInt_nat ha, ofInt_nat hb]
  exact IntWalk.i64_in _ (by omega)
theorem or_i64 {a b : Nat} (ha : a < 4611686018427387904) (hb : b < 4611686018427387904) : bits .or .i64 (a : Int) (b : Int) = ((a ||| b : Nat) : Int) := by
  have hx : a ||| b < 2 ^ 62 := Nat.or_lt_two_pow (by omega) (by omega)
  show IntKind.i64.wrap ((BitVec.ofInt 64 (a : Int) ||| BitVec.ofInt 64 (b : Int)).toNat : Int) = _
  rw [BitVec.toNat_or, ofInt_nat ha, ofInt_nat hb]
  exact IntWalk.i64_in _ (by omega)
theorem xor_i64 {a b : Nat} (ha : a < 4611686018427387904) (hb : b < 4611686018427387904) : bits .xor .i64 (a : Int) (b : Int) = ((a ^^^ b : Nat) : Int) := by
  have hx : a ^^^ b < 2 ^ 62 := Nat.xor_lt_two_pow (by omega) (by omega)
  show IntKind.i64.wrap ((BitVec.ofInt 64 (a : Int) ^^^ BitVec.ofInt 64 (b : Int)).toNat : Int) = _
  rw [BitVec.toNat_xor, ofInt_nat ha, ofInt_nat hb]
  exact IntWalk.i64_in _ (by omega)
theorem wrap_nat {P : Nat} (h : P ≤ 1099511627776) : wrap64 (P : Int) = (P : Int) := IntWalk.wrap64_in _ ⟨by omega, by omega⟩
theorem pow_cast (x : Nat) : ((2 : Int) ^ x) = ((2 ^ x : Nat) : Int) := by rw [Int.natCast_pow]; rfl
theorem pow_le {x : Nat} (h : x ≤ 40) : 2 ^ x ≤ 1099511627776 := Nat.pow_le_pow_right (by omega) h
/-- (U >> x) & 1. -/
theorem bit_at {U x : Nat} (hU : U < 4611686018427387904) : bits .and .i64 ((U : Int) / 2 ^ x) 1 = if U.testBit x then 1 else 0 := by
  have h1 : U / 2 ^ x ≤ U := Nat.div_le_self _ _
  have h2 := and_i64 (a := U / 2 ^ x) (b := 1) (by omega) (by omega)
  rw [pow_cast, ← Int.natCast_ediv]
  refine h2.trans ?_
  rw [Nat.and_one_is_mod, Nat.testBit_eq_decide_div_mod_eq]
  by_cases h : U / 2 ^ x % 2 = 1
  · simp [h]
  · have h3 : U / 2 ^ x % 2 = 0 := by omega
    simp [h3]
theorem bit_yes {U x : Nat} (hU : U < 4611686018427387904) (h : U.testBit x = true) : bits .and .i64 ((U : Int) / 2 ^ x) 1 = 1 := by rw [bit_at hU, h]; rfl
theorem bit_no {U x : Nat} (hU : U < 4611686018427387904) (h : U.testBit x = false) : bits .and .i64 ((U : Int) / 2 ^ x) 1 = 0 := by rw [bit_at hU, h]; rfl
/-- U | 1 << x. -/
theorem bit_or {U x : Nat} (hU : U < 4611686018427387904) (hx : x ≤ 40) : bits .or .i64 (U : Int) (wrap64 (2 ^ x)) = ((U ||| 2 ^ x : Nat) : Int) := by
  have h1 := pow_le hx
  have h2 : wrap64 ((2 : Int) ^ x) = ((2 ^ x : Nat) : Int) := by
    rw [pow_cast]
    exact wrap_nat (by omega)
  rw [h2]
  exact or_i64 hU (by omega)
/-- U ^ 1 << x. -/
theorem bit_xor {U x : Nat} (hU : U < 4611686018427387904) (hx : x ≤ 40) : bits .xor .i64 (U : Int) (wrap64 (2 ^ x)) = ((U ^^^ 2 ^ x : Nat) : Int) := by
  have h1 := pow_le hx
  have h2 : wrap64 ((2 : Int) ^ x) = ((2 ^ x : Nat) : Int) := by
    rw [pow_cast]
    exact wrap_nat (by omega)
  rw [h2]
  exact xor_i64 hU (by omega)
theorem or_test (U x j : Nat) : (U ||| 2 ^ x).testBit j = (U.testBit j || decide (x = j)) := by rw [Nat.testBit_or, Nat.testBit_two_pow]
theorem xor_test (U x j : Nat) : (U ^^^ 2 ^ x).testBit j = (U.testBit j ^^ decide (x = j)) := by rw [Nat.testBit_xor, Nat.testBit_two_pow]
theorem or_lt {U x n : Nat} (hU : U < 2 ^ n) (hx : x < n) : U ||| 2 ^ x < 2 ^ n := Nat.or_lt_two_pow hU (Nat.pow_lt_pow_right (by omega) hx)

/-- The bits of a list's numbers. -/
def mask : List Int → Nat
  | [] => 0
  | x :: l => mask l ||| 2 ^ x.toNat
theorem mask_test : ∀ {l : List Int} (_ : ∀ x ∈ l, 0 ≤ x) (j : Nat), (mask l).testBit j = has l (j : Int)
  | [], _, j => by simp [mask, has]
  | x :: l, h, j => by
    have h0 := h x (by simp)
    rw [mask, or_test, mask_test (fun y hy => h y (by simp [hy])) j, has_cons]
    have : decide (x.toNat = j) = ((j : Int) == x) := by
      rw [Bool.eq_iff_iff]
      simp
      omega
    rw [this, Bool.or_comm]
end Go.Proofs.Ythppancpecjegaa
