/-
  Draws of covers: DrawIsCoverOf, DrawCoverSum, DrawCoveredSpots.
-/
import Derived.Test.YthppancpecjegaaDrf
import Derived.Test.YthppancpecjegaaAb
namespace Go.Proofs.Ythppancpecjegaa
open Go.RowKit

theorem ints_one (L : List Int) : ∀ u ∈ ints L, u.oneCell' = true := fun u hu => by
  simp only [ints, List.mem_flatMap, List.mem_singleton] at hu
  obtain ⟨n, _, rfl⟩ := hu
  rfl
theorem Mem.takeI {w : World} {A : Option Addr} {L : List Int} (h : Mem w A (ints L)) (k : Nat) : Mem w A (ints (L.take k)) := Mem.take (f := fun n : Int => [Value.int .i64 n]) h k
/-- A row of the call's own with numbers appended to it, inside a region that draws its order. -/
theorem step_append_many {P : Program} (w : World) {ops : Array Oper} {o : Oper} {a : Act} {K : Act → World → Prop} {Q : Exit → Act → World → Prop} {E : Prop} (hgd : o.guard = none) (s x : Operand) (t : TypeId)
    (ho : o.op = .call { callee := .builtin .append, args := #[s, x], argTypes := #[t, t] })
    (base : Nat) (e : TypeId) (i : TypeInfo) (z : Value) (size bytes : Nat) (ht : P.underlying t = some (.slice e)) (hi : P.info? e = some i) (hz : i.zero = some z)
    (hsize : i.size = size) (hby : i.bytes = bytes) (hzs : z.cells.size = size) (hsz : 0 < size)
    (v : Value) (n : Nat) (xs : List Value) (hs : a.eval s = v) (hown : w.ownsRow base e size v n xs)
    (ad : Addr) (m c : Nat) (news : List Value) (hx : a.eval x = .slice (some ad) m c) (hl : news.length = m * size) (hnews : ∀ j u, news[j]? = some u → w.cell? (ad.add j) = some u) (h1 : ∀ u ∈ news, u.oneCell' = true)
    (h63 : n + m ≤ maxLen) (hbytes : (n + m) * bytes ≤ 140737488355328) (hbase : base ≤ w.heap.size)
    (h : ∀ v' w', w'.ownsRow base e size v' (n + m) (xs ++ news) → w.grownBy w' v.ownBlock → (v'.ownBlock = v.ownBlock ∨ v'.ownBlock = some w.heap.size) → K (a.put o.dst v') w') :
    if Region.wanted o (yielded ops a.tmps) = true then Oper.wp P o a w K Q else E := by
  have hw : Region.wanted o (yielded ops a.tmps) = true := by simp [Region.wanted, hgd]
  rw [if_pos hw]
  obtain ⟨v', w', hr, h2, h3, h4, h5⟩ := run_append_own_at (P := P) w base t o.type e i z size bytes ht hi hz hsize hby hzs hsz v n xs hown ad m c news hl hnews h1 h63 hbytes hbase
  unfold Oper.wp execOp
  simp only [ho, resolve, invoke, builtin, Sem.run_bind, Sem.run_pure, Result.andThen_ok, List.map_toArray, List.map_cons, List.map_nil, hs, hx, hr]
  exact h _ _ h2 h3 h5

set_option maxRecDepth 100000 in
/-- A copy of a row's first numbers. -/
theorem l1OwnT_any (b off c k : Nat) (L : List Int) (w : World) (hm : Mem w (some ⟨b, off, none⟩) (ints L)) (hk : k ≤ L.length) (hl : L.length ≤ 1048576) : Calls Try.prog 67 #[.slice (some ⟨b, off, none⟩) k c] w fun e w' =>
    ∃ A' c', e = .returned (.slice A' k c') ∧ w'.ownsRow w.heap.size 3 1 (.slice A' k c') k (ints (L.take k)) ∧ Below w.heap.size w w' := by
  obtain ⟨i0, hi, hz0, hz1, hz2⟩ := info_parts info_int
  have hlen : (L.take k).length = k := by rw [List.length_take]; omega
  have hc : ∀ j u, (ints (L.take k))[j]? = some u → w.cell? (Addr.add ⟨b, off, none⟩ j) = some u := fun j u hu => by
    have hne : ints (L.take k) ≠ [] := fun h => by rw [h] at hu; simp at hu
    obtain ⟨b', off', e, h2⟩ := (hm.takeI k) hne
    cases e
    rw [Addr.add_lit]
    exact h2 j u hu
  have hcc : ∀ j u, (ints (L.take k))[j]? = some u → (w.alloc (.cells #[] 3)).cell? (Addr.add ⟨b, off, none⟩ j) = some u := fun j u hu => keep1 ((Below.refl _ _).alloc (Nat.le_refl _) _) (hc j u hu)
  have HC := Lib.hid hcc
  have HL := Lib.hid hlen
  have HO := Lib.hid (show (w.alloc (.cells #[] 3)).ownsRow w.heap.size 3 1 (.slice (some ⟨w.heap.size, 0, none⟩) 0 0) 0 [] from own_empty _ _ rfl (Nat.le_refl _) rfl)
  clear hc hcc hm hlen
  go_enter Try.func67, Try.ntmps67
  go_wp2_with (at_builtin; refine wpList_append_own_at _ rfl (.tmp 3) (.tmp 4) 23 rfl w.heap.size 3 i0 (.int .i64 0) 1 8 Try.underlying23 hi hz0 hz1 hz2 rfl (by omega) _ _ _ rfl HO.out ⟨b, off, none⟩ k c (ints (L.take k)) rfl (by rw [ints_len, HL.out, Nat.mul_one]) HC.out (ints_one _) (by unfold maxLen; omega) (by omega) (by simp) ?_; intro v' w1 ho1 hg1 _ hat)
  go_ret
  rw [Nat.zero_add, List.nil_append] at ho1
  obtain ⟨A', c', rfl⟩ := own_form ho1
  exact ⟨A', c', rfl, ho1, ((Below.refl _ _).alloc (Nat.le_refl _) _).grown hg1 (by simp) (fun k hk => by have h9 : w.heap.size = k := Option.some.inj hk; omega)⟩
end Go.Proofs.Ythppancpecjegaa
