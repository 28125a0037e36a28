/-
  The law of delays' own small functions.
-/
import Derived.Test.YthehcjfljjfnmaaGreatFds
import Derived.Test.YthehcjfljjfnmaaGreatLws
namespace Go.Proofs.YthehcjfljjfnmaaGreat
open Go.RowKit
open Go.Sort (grow)

set_option maxHeartbeats 1600000 in
set_option maxRecDepth 100000 in
theorem qLess_any (a b c d : Int) (ha : 0 ≤ a) (a1 : a ≤ 9223372036854775807) (hc : 0 ≤ c) (c1 : c ≤ 9223372036854775807) (hb : 0 < b) (b1 : b ≤ 256) (hd : 0 < d) (d1 : d ≤ 563200000000) (w : World) : Calls Tryz.prog 22 #[.int .i64 a, .int .i64 b, .int .i64 c, .int .i64 d] w fun e w' => e = .returned (.bool (fLt (a, b) (c, d))) ∧ Below w.heap.size w w' := by
  have hf : fLt (a, b) (c, d) = decide (a / b < c / d ∨ (a / b = c / d ∧ a % b * d < c % d * b)) := by
    simp only [fLt, apLess_iff ha hc hb hd]
  rw [hf]
  obtain ⟨f1, f2, f3, f4, f5, f6, f7⟩ := div_facts ha a1 hb
  obtain ⟨g1, g2, g3, g4, g5, g6, g7⟩ := div_facts hc c1 hd
  have r1 := Int.emod_nonneg a f1
  have r2 := Int.emod_lt_of_pos a hb
  have r3 := Int.emod_nonneg c g1
  have r4 := Int.emod_lt_of_pos c hd
  have s1 := mul_bd r1 (by omega : a % b ≤ 256) (by omega : 0 ≤ d) d1
  have s3 := mul_bd r3 (by omega : c % d ≤ 563200000000) (by omega : 0 ≤ b) b1
  have w1 : IntKind.i64.wrap (a % b * d) = a % b * d := IntWalk.i64_in _ (by omega)
  have w2 : IntKind.i64.wrap (c % d * b) = c % d * b := IntWalk.i64_in _ (by omega)
  clear hf s1 s3 r1 r2 r3 r4
  by_cases h1 : a / b = c / d
  · by_cases h2 : a % b * d < c % d * b
    all_goals
      go_enter Tryz.func22, Tryz.ntmps22
      go_wp2
      refine wp_region_quiet_below (by kernel_rfl) (by kernel_rfl) ?_
      repeat (first | go_big_quiet_step (fail) | quiet_step (fail))
      refine wpQuiet_nil ?_
      intro _ hw'
      obtain ⟨⟨dq, osq⟩, hw''⟩ := hw'
      subst hw''
      have hb5 := below_regrown (w) dq osq
      generalize grow (redrawn w dq) osq = W2 at *
      go_wp2
      refine wp_region_quiet_below (by kernel_rfl) (by kernel_rfl) ?_
      repeat (first | go_big_quiet_step (fail) | quiet_step (fail))
      refine wpQuiet_nil ?_
      intro _ hw'
      obtain ⟨⟨dq, osq⟩, hw''⟩ := hw'
      subst hw''
      have hb6 := below_regrown (W2) dq osq
      generalize grow (redrawn W2 dq) osq = W3 at *
      go_wp2
      go_ret
      exact ⟨ret_bool (by simp [h1, h2]), Below.next hb6 hb5 hb5.size⟩
  · by_cases h2 : a / b < c / d
    all_goals
      go_enter Tryz.func22, Tryz.ntmps22
      go_wp2
      refine wp_region_quiet_below (by kernel_rfl) (by kernel_rfl) ?_
      repeat (first | go_big_quiet_step (fail) | quiet_step (fail))
      refine wpQuiet_nil ?_
      intro _ hw'
      obtain ⟨⟨dq, osq⟩, hw''⟩ := hw'
      subst hw''
      have hb5 := below_regrown (w) dq osq
      generalize grow (redrawn w dq) osq = W2 at *
      go_wp2
      refine wp_region_quiet_below (by kernel_rfl) (by kernel_rfl) ?_
      repeat (first | go_big_quiet_step (fail) | quiet_step (fail))
      refine wpQuiet_nil ?_
      intro _ hw'
      obtain ⟨⟨dq, osq⟩, hw''⟩ := hw'
      subst hw''
      have hb6 := below_regrown (W2) dq osq
      generalize grow (redrawn W2 dq) osq = W3 at *
      go_wp2
      go_ret
      exact ⟨ret_bool (by simp [h1, h2]), Below.next hb6 hb5 hb5.size⟩


/-- Where pair i lies. -/
theorem PrOk.at_ {w : World} {base : Nat} {v : Value} {vals : List Value} {V : List (Nat × Nat)} (h : PrOk w base v vals V) {k : Nat} (hk : k < V.length) :
    ∃ (b : Nat) (x : Nat × Nat), vals[k]? = some (.slice (some ⟨b, 0, none⟩) 2 2) ∧ V[k]? = some x ∧ Mem w (some ⟨b, 0, none⟩) (ints [(x.1 : Int), (x.2 : Int)]) := by
  obtain ⟨bs, h1, h2, _, _, h5⟩ := h
  obtain ⟨b, hb⟩ := some_of_lt (L := bs) (k := k) (by omega)
  obtain ⟨x, hx⟩ := some_of_lt hk
  refine ⟨b, x, by rw [h1, List.getElem?_map, hb]; rfl, hx, fun _ => ⟨b, 0, rfl, fun j u hu => ?_⟩⟩
  have := (h5 k b x hb hx).1.cell j
  rw [Nat.zero_add, this]
  simpa [ints] using hu
/-- Pairs that can be read. -/
def PairsAt (w : World) (A : Option Addr) (V : List (Nat × Nat)) : Prop := ∀ k, k < V.length → ∃ (b off b2 : Nat) (x : Nat × Nat), A = some ⟨b, off, none⟩ ∧ w.cell? ⟨b, off + k, none⟩ = some (.slice (some ⟨b2, 0, none⟩) 2 2) ∧ V[k]? = some x ∧ Mem w (some ⟨b2, 0, none⟩) (ints [(x.1 : Int), (x.2 : Int)])
theorem PairsAt.below {w w' : World} {A : Option Addr} {V : List (Nat × Nat)} (h : PairsAt w A V) (hb : Below w.heap.size w w') : PairsAt w' A V := fun k hk => by
  obtain ⟨b, off, b2, x, h1, h2, h3, h4⟩ := h k hk
  exact ⟨b, off, b2, x, h1, keep1 hb h2, h3, h4.below hb⟩
theorem PairsAt.of {w : World} {base : Nat} {A : Option Addr} {c : Nat} {v : Value} {vals : List Value} {V : List (Nat × Nat)} (h : PrOk w base v vals V) (hm : Mem w A vals) : PairsAt w A V := fun k hk => by
  obtain ⟨b2, x, h1, h2, h3⟩ := h.at_ hk
  obtain ⟨b, off, hA, hc⟩ := hm.at_ (j := k) (List.getElem?_eq_some_iff.1 h1).1
  exact ⟨b, off, b2, x, hA, hc k _ h1, h2, h3⟩
theorem qInts_pair (b b2 : Nat) (x : Nat × Nat) (w : World) (hm : Mem w (some ⟨b, 0, none⟩) (ints [(x.1 : Int), (x.2 : Int)])) (hn : Mem w (some ⟨b2, 0, none⟩) (ints [(x.1 : Int), (x.2 : Int)])) : Calls Tryz.prog 21 #[.slice (some ⟨b, 0, none⟩) 2 2, .slice (some ⟨b2, 0, none⟩) 2 2] w fun e w' =>
    e = .returned (.bool true) ∧ Below w.heap.size w w' := qInts_same (some ⟨b, 0, none⟩) (some ⟨b2, 0, none⟩) 2 2 [(x.1 : Int), (x.2 : Int)] w hm hn (by simp)
set_option maxRecDepth 100000 in
theorem qLists_same (A B : Option Addr) (c d : Nat) (V : List (Nat × Nat)) (w : World) (hm : PairsAt w A V) (hn : PairsAt w B V) (hl : V.length ≤ 1048576) : Calls Tryz.prog 20 #[.slice A V.length c, .slice B V.length d] w fun e w' =>
    e = .returned (.bool true) ∧ Below w.heap.size w w' := by
  go_enter Tryz.func20, Tryz.ntmps20
  go_wp2
  go_loopw [5, 13] (fun _ i wr => ∃ k : Nat, k ≤ V.length ∧ i = .int .i64 k ∧ Below w.heap.size w wr) (fun _ i _ => V.length - (intOf i).toNat)
  case atStart => exact ⟨0, by omega, rfl, Below.refl _ _⟩
  case round =>
    obtain ⟨k, hk, rfl, hb⟩ := hrel
    by_cases hlt : k < V.length
    · obtain ⟨b, off, b2, x, rfl, h1, hx, hm2⟩ := (hm.below hb) k hlt
      obtain ⟨b', off', b2', x', rfl, h1', hx', hn2⟩ := (hn.below hb) k hlt
      have e : x = x' := Option.some.inj (hx.symm.trans hx')
      subst e
      have HM := Lib.hid hm2
      have HN := Lib.hid hn2
      have HB := Lib.hid hb
      have k1 : ∀ dd os, (grow (redrawn wr dd) os).cell? ⟨b, off + k, none⟩ = some (.slice (some ⟨b2, 0, none⟩) 2 2) := cell_regrown h1
      have k2 : ∀ dd os, (grow (redrawn wr dd) os).cell? ⟨b', off' + k, none⟩ = some (.slice (some ⟨b2', 0, none⟩) 2 2) := cell_regrown h1'
      have C1 := Lib.hid (show ∀ dd os, Calls Tryz.prog 21 #[.slice (some ⟨b2, 0, none⟩) 2 2, .slice (some ⟨b2', 0, none⟩) 2 2] (grow (redrawn wr dd) os) (fun e w'' => e = .returned (.bool true) ∧ ∃ p : Regrown, w'' = grow (redrawn wr p.d) p.os) from fun dd os => Calls.regrown_of (qInts_pair b2 b2' x _ (HM.out.below (below_regrown wr dd os)) (HN.out.below (below_regrown wr dd os))))
      clear hx hx' hm2 hn2 HM HN hm hn
      go_wp2
      refine wp_region_quiet_below (by kernel_rfl) (by kernel_rfl) ?_
      repeat (first | go_big_quiet_step (first | with_reducible exact C1.out _ _) | quiet_step (first | with_reducible exact C1.out _ _))
      refine wpQuiet_nil ?_
      intro _ hw'
      obtain ⟨⟨dq, osq⟩, hw''⟩ := hw'
      subst hw''
      have hb5 := below_regrown (wr) dq osq
      generalize hW2 : grow (redrawn wr dq) osq = W2 at *
      clear hW2
      go_wp2
      go_roundw
      case rel => exact ⟨k + 1, by omega, by go_num, Below.next hb5 hb hb.size⟩
      case measure => simp [intOf]; omega
    · go_wp2
      go_ret
      exact ⟨rfl, hb⟩

end Go.Proofs.YthehcjfljjfnmaaGreat
