import Derived.Test.YthehcjfljjfnmaaGreatBase
import Derived.Test.YthehcjfljjfnmaaGreatDtj
namespace Go.Proofs.YthehcjfljjfnmaaGreat
open Go.RowKit
theorem run_add {P : Program} {w : World} {a : Act} {o : Oper} (t t2 : TypeId) (x y : Operand) (ho : o.op = .binOp .add t x y t2) {m k : Int} (hx : a.eval x = .int .i64 m) (hy : a.eval y = .int .i64 k) : (execOp a.eval o).run P w = .ok (.value (.int .i64 (IntKind.i64.wrap (m + k)))) w := by
  unfold execOp
  simp only [ho, hx, hy]
  go_simp
theorem run_mul {P : Program} {w : World} {a : Act} {o : Oper} (t t2 : TypeId) (x y : Operand) (ho : o.op = .binOp .mul t x y t2) {m k : Int} (hx : a.eval x = .int .i64 m) (hy : a.eval y = .int .i64 k) : (execOp a.eval o).run P w = .ok (.value (.int .i64 (IntKind.i64.wrap (m * k)))) w := by
  unfold execOp
  simp only [ho, hx, hy]
  go_simp
theorem wpAnyL_takeD {P : Program} {ops : Array Oper} {Q : Exit → Act → World → Prop} {md : Region.Mode} {S : World → Prop} {last : Nat} {i : Nat} {oi : Oper} {v : Value} {fuel : Nat} {listed : Array Bool} {a : Act} {w : World} (d : Nat) (hi : ops[i]? = some oi) (hd : oi.dst = some d)
    (hs : Region.noSelect ops = true) (hwt : waitsB md ops last i = true) (hf : Region.free md ops listed i = true) (hr : (Region.ready md ops listed).contains i = true)
    (hQ : ∀ c a w, Q (.panic c) (a.put oi.dst v) w → Q (.panic c) a w) (hy : YieldsIf P ops S oi v a) (hS : S w)
    (h : wpAnyL P md ops Q S last fuel (listed.setIfInBounds i true) (a.put (some d) v) w) : wpAnyL P md ops Q S last (fuel + 1) listed a w :=
  wpAnyL_take hi hs hwt hf hr hQ hy hS (by rw [hd]; exact h)
end Go.Proofs.YthehcjfljjfnmaaGreat
