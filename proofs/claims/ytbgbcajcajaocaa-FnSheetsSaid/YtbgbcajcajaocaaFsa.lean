/-
  FnSheets: the laws' own functions pSum, pSameSpots, pSameCharts, pSameSheet.
-/
import Derived.Test.YtbgbcajcajaocaaDso
import Derived.Test.YtbgbcajcajaocaaLws
namespace Go.Proofs.Ytbgbcajcajaocaa
open Go.RowKit Go.Sort

/-- The sum of the first k. -/
def smTo (C : List Int) : Nat → Int
  | 0 => 0
  | k + 1 => smTo C k + C.getD k 0
theorem smTo_succ {C : List Int} {k : Nat} {n : Int} (h : C[k]? = some n) : smTo C (k + 1) = smTo C k + n := by simp [smTo, List.getD, h]
theorem smTo_bound {C : List Int} (hC : ∀ x ∈ C, 0 ≤ x ∧ x ≤ 64) : ∀ k, 0 ≤ smTo C k ∧ smTo C k ≤ 64 * k
  | 0 => by simp [smTo]
  | k + 1 => by
    have h1 := smTo_bound hC k
    have h2 : 0 ≤ C.getD k 0 ∧ C.getD k 0 ≤ 64 := by
      cases e : C[k]? with
      | none => simp [List.getD, e]
      | some x => simp only [List.getD, e, Option.getD]; exact hC x (List.mem_of_getElem? e)
    rw [smTo]
    omega
set_option maxRecDepth 100000 in
theorem pSum_any (A : Option Addr) (c : Nat) (C : List Int) (w : World) (hm : Mem w A (ints C)) (hC : ∀ x ∈ C, 0 ≤ x ∧ x ≤ 64) (hl : C.length ≤ 1048576) : Calls Try.prog 31 #[.slice A C.length c] w fun e w' => e = .returned (.int .i64 (smTo C C.length)) ∧ w = w' := by
  have HC := Lib.hid hC
  clear hC
  go_enter Try.func31, Try.ntmps31
  go_wp2
  go_loop [3, 5, 8] (fun s _ i => ∃ k : Nat, k ≤ C.length ∧ i = .int .i64 k ∧ s = .int .i64 (smTo C k)) (fun _ _ i => C.length - (intOf i).toNat)
  case atStart => exact ⟨0, by omega, rfl, rfl⟩
  case round =>
    obtain ⟨k, hk, rfl, rfl⟩ := hrel
    by_cases hlt : k < C.length
    · obtain ⟨n, hn⟩ := some_of_lt hlt
      obtain ⟨b, off, rfl, h1⟩ := hm.int hn
      have HN := Lib.hid (smTo_succ hn)
      obtain ⟨b1, b2⟩ := smTo_bound HC.out k
      obtain ⟨b3, b4⟩ := HC.out n (List.mem_of_getElem? hn)
      clear hn
      go_wp2
      go_round
      case rel => exact ⟨k + 1, by omega, by go_num, by rw [HN.out]⟩
      case measure => simp [intOf]; omega
    · obtain rfl : k = C.length := by omega
      go_wp2
      go_ret
      exact ⟨rfl, rfl⟩
set_option maxRecDepth 100000 in
theorem pSameSpots_same (A B : Option Addr) (c d : Nat) (L : List Sp) (w : World) (hm : Mem w A (spots L)) (hn : Mem w B (spots L)) (hl : L.length ≤ 1048576) : Calls Try.prog 63 #[.slice A L.length c, .slice B L.length d] w fun e w' => e = .returned (.bool true) ∧ Below w.heap.size w w' := by
  go_enter Try.func63, Try.ntmps63
  go_wp2
  go_loopw [5, 13] (fun _ i wr => ∃ k : Nat, k ≤ L.length ∧ i = .int .i64 k ∧ Below w.heap.size w wr) (fun _ i _ => L.length - (intOf i).toNat)
  case atStart => exact ⟨0, by omega, rfl, Below.refl _ _⟩
  case round =>
    obtain ⟨k, hk, rfl, hb⟩ := hrel
    by_cases hlt : k < L.length
    · obtain ⟨s, hs⟩ := some_of_lt hlt
      obtain ⟨b, off, rfl, h1, h2⟩ := (hm.below hb).spot hs
      obtain ⟨b', off', rfl, h3, h4⟩ := (hn.below hb).spot hs
      clear hs
      go_wp2
      go_quiet (fail)
      go_wp2
      go_roundw
      case rel => exact ⟨k + 1, by omega, by go_num, Below.drewN hb _⟩
      case measure => simp [intOf]; omega
    · go_wp2
      go_ret
      exact ⟨rfl, hb⟩
set_option maxRecDepth 100000 in
theorem pSameCharts_same (A B : Option Addr) (c d n : Nat) (hs hs' : List (Hdr Sp)) (w : World) (hm : Grid w A hs) (hn : Grid w B hs') (he : lns hs = lns hs') (hz : hs.length = n) (hl : n ≤ 1048576) (hr : ∀ (k : Nat) (h : Hdr Sp), hs[k]? = some h → h.L.length ≤ 1048576) : Calls Try.prog 33 #[.slice A n c, .slice B n d] w fun e w' => e = .returned (.bool true) ∧ Below w.heap.size w w' := by
  have HZ := Lib.hid (show n ≤ hs.length ∧ n ≤ hs'.length from ⟨by omega, by have := congrArg List.length he; rw [lns_len, lns_len] at this; omega⟩)
  have HE := Lib.hid he
  have HR := Lib.hid hr
  clear hz he hr
  go_enter Try.func33, Try.ntmps33
  go_wp2
  go_loopw [5, 13] (fun _ i wr => ∃ k : Nat, k ≤ n ∧ i = .int .i64 k ∧ Below w.heap.size w wr) (fun _ i _ => n - (intOf i).toNat)
  case atStart => exact ⟨0, by omega, rfl, Below.refl _ _⟩
  case round =>
    obtain ⟨k, hk, rfl, hb⟩ := hrel
    by_cases hlt : k < n
    · obtain ⟨⟨A1, c1, L⟩, hx⟩ := some_of_lt (L := hs) (k := k) (by have := HZ.out; omega)
      obtain ⟨⟨A2, c2, L'⟩, hx'⟩ := some_of_lt (L := hs') (k := k) (by have := HZ.out; omega)
      have e1 := lns_at hx
      have e2 := lns_at hx'
      rw [HE.out, e2] at e1
      obtain rfl : L' = L := Option.some.inj e1
      obtain ⟨b, off, rfl, h1⟩ := hdr_cell (hm.below hb).mem hx
      obtain ⟨b', off', rfl, h2⟩ := hdr_cell (hn.below hb).mem hx'
      have M1 := Lib.hid ((hm.below hb).row k _ hx)
      have M2 := Lib.hid ((hn.below hb).row k _ hx')
      have hL : L'.length ≤ 1048576 := HR.out k _ hx
      have k1 : ∀ dd os, (grow (redrawn wr dd) os).cell? ⟨b, off + k, none⟩ = some (.slice A1 L'.length c1) := cell_regrown h1
      have k2 : ∀ dd os, (grow (redrawn wr dd) os).cell? ⟨b', off' + k, none⟩ = some (.slice A2 L'.length c2) := cell_regrown h2
      have C1 := Lib.hid (show ∀ dd os, Calls Try.prog 63 #[.slice A1 L'.length c1, .slice A2 L'.length c2] (grow (redrawn wr dd) os) (fun e w'' => e = .returned (.bool true) ∧ ∃ p : Regrown, w'' = grow (redrawn wr p.d) p.os) from fun dd os => Calls.regrown_of (pSameSpots_same A1 A2 c1 c2 L' _ (M1.out.below (below_regrown wr dd os)) (M2.out.below (below_regrown wr dd os)) hL))
      clear hx hx' e1 e2
      go_wp2
      refine wp_region_quiet_below (by kernel_rfl) (by kernel_rfl) ?_
      repeat (first | go_big_quiet_step (first | with_reducible exact C1.out _ _) | quiet_step (first | with_reducible exact C1.out _ _))
      refine wpQuiet_nil ?_
      intro _ hw'
      obtain ⟨⟨dq, osq⟩, hw''⟩ := hw'
      subst hw''
      have hb5 := below_regrown (wr) dq osq
      generalize hW2 : grow (redrawn wr dq) osq = W2 at *
      clear hW2
      go_wp2
      go_roundw
      case rel => exact ⟨k + 1, by omega, by go_num, Below.next hb5 hb hb.size⟩
      case measure => simp [intOf]; omega
    · go_wp2
      go_ret
      exact ⟨rfl, hb⟩
set_option maxRecDepth 100000 in
theorem pSameSheet_same (p : Int) (s : Sp) (A B : Option Addr) (c d : Nat) (L : List Rw) (w : World) (hm : Mem w A (rows L)) (hn : Mem w B (rows L)) (hl : L.length ≤ 1048576) :
    Calls Try.prog 28 #[.agg #[.int .i64 p, .int .i64 s.x, .int .i64 s.y, .slice A L.length c], .agg #[.int .i64 p, .int .i64 s.x, .int .i64 s.y, .slice B L.length d]] w fun e w' => e = .returned (.bool true) ∧ Below w.heap.size w w' := by
  have HB0 := Lib.hid ((Blk.new w #[.int .i64 p, .int .i64 s.x, .int .i64 s.y, .slice A L.length c] 29).alloc (.cells #[.int .i64 p, .int .i64 s.x, .int .i64 s.y, .slice B L.length d] 29))
  have HB1 := Lib.hid (show Blk ((w.alloc (.cells #[.int .i64 p, .int .i64 s.x, .int .i64 s.y, .slice A L.length c] 29)).alloc (.cells #[.int .i64 p, .int .i64 s.x, .int .i64 s.y, .slice B L.length d] 29)) (w.heap.size + 1) #[.int .i64 p, .int .i64 s.x, .int .i64 s.y, .slice B L.length d] 29 from blk_new (by simp))
  have HB := Lib.hid ((below_alloc w (.cells #[.int .i64 p, .int .i64 s.x, .int .i64 s.y, .slice A L.length c] 29)).trans ((below_alloc _ (.cells #[.int .i64 p, .int .i64 s.x, .int .i64 s.y, .slice B L.length d] 29)).mono (by simp)))
  obtain ⟨W0, hW0⟩ : ∃ x, (w.alloc (.cells #[.int .i64 p, .int .i64 s.x, .int .i64 s.y, .slice A L.length c] 29)).alloc (.cells #[.int .i64 p, .int .i64 s.x, .int .i64 s.y, .slice B L.length d] 29) = x := ⟨_, rfl⟩
  rw [hW0] at HB0 HB1 HB
  have HM := Lib.hid (hm.below HB.out)
  have HN := Lib.hid (hn.below HB.out)
  have z0 := (HB0.out.cell 0).trans (show _ = some (Value.int .i64 p) from rfl)
  have z1 := (HB0.out.cell 1).trans (show _ = some (Value.int .i64 s.x) from rfl)
  have z2 := (HB0.out.cell 2).trans (show _ = some (Value.int .i64 s.y) from rfl)
  have z3 := (HB0.out.cell 3).trans (show _ = some (Value.slice A L.length c) from rfl)
  have y0 := (HB1.out.cell 0).trans (show _ = some (Value.int .i64 p) from rfl)
  have y1 := (HB1.out.cell 1).trans (show _ = some (Value.int .i64 s.x) from rfl)
  have y2 := (HB1.out.cell 2).trans (show _ = some (Value.int .i64 s.y) from rfl)
  have y3 := (HB1.out.cell 3).trans (show _ = some (Value.slice B L.length d) from rfl)
  clear hm hn
  go_enter Try.func28, Try.ntmps28
  go_wp2
  (try rw [hW0])
  clear hW0 z0 z1 z2 z3 y0 y1 y2 y3
  go_loopw [5, 30] (fun _ i wr => ∃ k : Nat, k ≤ L.length ∧ i = .int .i64 k ∧ Below W0.heap.size W0 wr) (fun _ i _ => L.length - (intOf i).toNat)
  case atStart => exact ⟨0, by omega, rfl, Below.refl _ _⟩
  case round =>
    obtain ⟨k, hk, rfl, hb⟩ := hrel
    by_cases hlt : k < L.length
    · obtain ⟨r, hr⟩ := some_of_lt hlt
      obtain ⟨b, off, rfl, h1, h2, h3⟩ := (HM.out.below hb).row hr
      obtain ⟨b', off', rfl, h4, h5, h6⟩ := (HN.out.below hb).row hr
      have z3 := ((HB0.out.below hb HB0.out.lt).cell 3).trans (show _ = some (Value.slice (some ⟨b, off, none⟩) L.length c) from rfl)
      have y3 := ((HB1.out.below hb HB1.out.lt).cell 3).trans (show _ = some (Value.slice (some ⟨b', off', none⟩) L.length d) from rfl)
      clear hr
      go_wp2
      go_quiet (fail)
      go_wp2
      go_roundw
      case rel => exact ⟨k + 1, by omega, by go_num, Below.drewN hb _⟩
      case measure => simp [intOf]; omega
    · have HBE := Lib.hid (HB.out.trans (hb.mono HB.out.size))
      clear hb
      go_wp2
      go_ret
      exact ⟨rfl, HBE.out⟩
end Go.Proofs.Ytbgbcajcajaocaa
