/-
  Move: a struct of 5 numbers (spots among them); lists of it as cells; the laws' own small functions on it.
-/
import Derived.Test.YtdklindbfcmilaaCpySp
import Derived.Test.YtdklindbfcmilaaFrame
import Derived.Lib.QuietBelow
namespace Go.Proofs.Ytdklindbfcmilaa
open Go.RowKit Go.Sort

structure Mv where
  f : Sp
  t : Sp
  c : Int
deriving DecidableEq

def okMv (s : Mv) : Prop := okSp s.f ∧ okSp s.t ∧ okInt s.c
def moves (L : List Mv) : List Value := L.flatMap fun s => [Value.int .i64 s.f.x, Value.int .i64 s.f.y, Value.int .i64 s.t.x, Value.int .i64 s.t.y, Value.int .i64 s.c]
theorem moves_len (L : List Mv) : (moves L).length = L.length * 5 := flat_len _ 5 (fun _ => rfl) L
theorem moves_snoc (L : List Mv) (s : Mv) : moves (L ++ [s]) = moves L ++ [Value.int .i64 s.f.x, Value.int .i64 s.f.y, Value.int .i64 s.t.x, Value.int .i64 s.t.y, Value.int .i64 s.c] := by simp [moves]
theorem Mem.move {w : World} {A : Option Addr} {L : List Mv} (h : Mem w A (moves L)) {k : Nat} {s : Mv} (hk : L[k]? = some s) :
    ∃ b off, A = some ⟨b, off, none⟩ ∧ w.cell? ⟨b, off + k * 5, none⟩ = some (.int .i64 s.f.x) ∧ w.cell? ⟨b, off + k * 5 + 1, none⟩ = some (.int .i64 s.f.y) ∧ w.cell? ⟨b, off + k * 5 + 2, none⟩ = some (.int .i64 s.t.x) ∧ w.cell? ⟨b, off + k * 5 + 3, none⟩ = some (.int .i64 s.t.y) ∧ w.cell? ⟨b, off + k * 5 + 4, none⟩ = some (.int .i64 s.c) := by
  obtain ⟨b, off, e, hc⟩ := Mem.elem (sz := 5) (fun _ => rfl) h hk (by omega)
  exact ⟨b, off, e, hc 0 _ rfl, hc 1 _ rfl, hc 2 _ rfl, hc 3 _ rfl, hc 4 _ rfl⟩
theorem moves_set : ∀ (L : List Mv) (k : Nat) (s : Mv), moves (L.set k s) = ((((((((((moves L).set (k * 5) (.int .i64 s.f.x))).set (k * 5 + 1) (.int .i64 s.f.y))).set (k * 5 + 2) (.int .i64 s.t.x))).set (k * 5 + 3) (.int .i64 s.t.y))).set (k * 5 + 4) (.int .i64 s.c))
  | [], _, _ => by simp [moves]
  | x :: L, 0, n => by simp [moves]
  | x :: L, k + 1, n => by
    have := moves_set L k n
    have e1 : (k + 1) * 5 = k * 5 + 1 + 1 + 1 + 1 + 1 := by omega
    simp only [moves, List.set_cons_succ, List.flatMap_cons, List.cons_append, List.nil_append, e1] at *
    rw [this]
theorem info_move : (Try.prog.info? 84).map (fun i => (i.zero, i.size, i.bytes)) = some (some (.agg #[.int .i64 0, .int .i64 0, .int .i64 0, .int .i64 0, .int .i64 0]), 5, 40) := by kernel_rfl
theorem eqMove_any (a b : Mv) (w : World) : Calls Try.prog 65 #[.agg #[.int .i64 a.f.x, .int .i64 a.f.y, .int .i64 a.t.x, .int .i64 a.t.y, .int .i64 a.c], .agg #[.int .i64 b.f.x, .int .i64 b.f.y, .int .i64 b.t.x, .int .i64 b.t.y, .int .i64 b.c]] w fun e w' => e = .returned (.bool (decide (a = b))) ∧ Below w.heap.size w w' := by
  obtain ⟨a0, a1, a2⟩ := a
  obtain ⟨b0, b1, b2⟩ := b
  by_cases h0 : a0 = b0
  · have d0 : decide (a0 = b0) = true := by simpa using h0
    have g0 := Lib.hid h0
    clear h0
    by_cases h1 : a1 = b1
    · have d1 : decide (a1 = b1) = true := by simpa using h1
      have g1 := Lib.hid h1
      clear h1
      by_cases h2 : a2 = b2
      · subst h2
        go_enter Try.func65, Try.ntmps65
        go_wp2_with (go_at_call 19; refine (eqSpot_any _ _ _).mono ?_; rintro e w' ⟨rfl, o1, o2, rfl⟩)
        go_ret
        exact ⟨ret_bool (by have := g0.out; subst this; have := g1.out; subst this; simp), by (repeat (first | exact Below.refl _ _ | assumption | (refine Below.alloc ?_ (by first | omega | (simp; done) | (simp; omega)) _) | (refine Below.setCell ?_ (by first | omega | (simp; done) | (simp; omega)) _) | (refine Below.drew ?_) | (refine Below.drewN ?_ _) | (refine Below.next (by assumption) ?_ (by first | omega | (simp; done) | (simp; omega)))))⟩
      · have e2 : (a2 != b2) = true := by simpa using h2
        have g2 := Lib.hid h2
        clear h2
        go_enter Try.func65, Try.ntmps65
        go_wp2_with (go_at_call 19; refine (eqSpot_any _ _ _).mono ?_; rintro e w' ⟨rfl, o1, o2, rfl⟩)
        go_ret
        exact ⟨ret_bool (by have := g2.out; simp [this]), by (repeat (first | exact Below.refl _ _ | assumption | (refine Below.alloc ?_ (by first | omega | (simp; done) | (simp; omega)) _) | (refine Below.setCell ?_ (by first | omega | (simp; done) | (simp; omega)) _) | (refine Below.drew ?_) | (refine Below.drewN ?_ _) | (refine Below.next (by assumption) ?_ (by first | omega | (simp; done) | (simp; omega)))))⟩
    · have e2 : decide (a1 = b1) = false := by simpa using h1
      have g1 := Lib.hid h1
      clear h1
      go_enter Try.func65, Try.ntmps65
      go_wp2_with (go_at_call 19; refine (eqSpot_any _ _ _).mono ?_; rintro e w' ⟨rfl, o1, o2, rfl⟩)
      go_ret
      exact ⟨ret_bool (by have := g1.out; simp [this]), by (repeat (first | exact Below.refl _ _ | assumption | (refine Below.alloc ?_ (by first | omega | (simp; done) | (simp; omega)) _) | (refine Below.setCell ?_ (by first | omega | (simp; done) | (simp; omega)) _) | (refine Below.drew ?_) | (refine Below.drewN ?_ _) | (refine Below.next (by assumption) ?_ (by first | omega | (simp; done) | (simp; omega)))))⟩
  · have e2 : decide (a0 = b0) = false := by simpa using h0
    have g0 := Lib.hid h0
    clear h0
    go_enter Try.func65, Try.ntmps65
    go_wp2_with (go_at_call 19; refine (eqSpot_any _ _ _).mono ?_; rintro e w' ⟨rfl, o1, o2, rfl⟩)
    go_ret
    exact ⟨ret_bool (by have := g0.out; simp [this]), by (repeat (first | exact Below.refl _ _ | assumption | (refine Below.alloc ?_ (by first | omega | (simp; done) | (simp; omega)) _) | (refine Below.setCell ?_ (by first | omega | (simp; done) | (simp; omega)) _) | (refine Below.drew ?_) | (refine Below.drewN ?_ _) | (refine Below.next (by assumption) ?_ (by first | omega | (simp; done) | (simp; omega)))))⟩
set_option maxHeartbeats 1600000 in
theorem eqMoveS_any (A B : Option Addr) (c d : Nat) (L M : List Mv) (w : World) (hm : Mem w A (moves L)) (hn : Mem w B (moves M)) (hl : L.length ≤ 1048576) (_ : M.length ≤ 1048576) : Calls Try.prog 28 #[.slice A L.length c, .slice B M.length d] w fun e w' =>
    e = .returned (.bool (decide (L = M))) ∧ Below w.heap.size w w' := by
  by_cases hlen : L.length = M.length
  · have hL : ((L.length : Int) != M.length) = false := by simp [hlen]
    have HL := Lib.hid hlen
    clear hlen
    go_enter Try.func28, Try.ntmps28
    go_wp2
    go_loopw [5] (fun i wr => ∃ k : Nat, k ≤ L.length ∧ i = .int .i64 k ∧ Below w.heap.size w wr ∧ Hid (L.take k = M.take k)) (fun i _ => L.length - (intOf i).toNat)
    case atStart => exact ⟨0, by omega, rfl, Below.refl _ _, Lib.hid (by simp)⟩
    case round =>
      obtain ⟨k, hk, rfl, hb, H⟩ := hrel
      by_cases hlt : k < L.length
      · obtain ⟨s, hs⟩ := some_of_lt hlt
        obtain ⟨t, ht⟩ := some_of_lt (L := M) (k := k) (by have := HL.out; omega)
        obtain ⟨b, off, rfl, h0, h1, h2, h3, h4⟩ := (hm.below hb).move hs
        obtain ⟨b2, off2, rfl, g0, g1, g2, g3, g4⟩ := (hn.below hb).move ht
        have hlt2 : k < M.length := by have := HL.out; omega
        have HS := Lib.hid hs
        have HT := Lib.hid ht
        clear hs ht
        have k0 := cell_regrown h0
        have q0 := cell_regrown g0
        have k1 := cell_regrown h1
        have q1 := cell_regrown g1
        have k2 := cell_regrown h2
        have q2 := cell_regrown g2
        have k3 := cell_regrown h3
        have q3 := cell_regrown g3
        have k4 := cell_regrown h4
        have q4 := cell_regrown g4
        have cE : ∀ dd os, Calls Try.prog 65 #[.agg #[.int .i64 s.f.x, .int .i64 s.f.y, .int .i64 s.t.x, .int .i64 s.t.y, .int .i64 s.c], .agg #[.int .i64 t.f.x, .int .i64 t.f.y, .int .i64 t.t.x, .int .i64 t.t.y, .int .i64 t.c]] (grow (redrawn wr dd) os) fun e w'' => e = .returned (.bool (decide (s = t))) ∧ ∃ p : Regrown, w'' = grow (redrawn wr p.d) p.os :=
          fun dd os => Calls.regrown_of (eqMove_any s t _)
        by_cases hst : s = t
        · have e1 : decide (s = t) = true := by simpa using hst
          have HST := Lib.hid hst
          clear hst
          go_wp2
          refine wp_region_quiet_below (by kernel_rfl) (by kernel_rfl) ?_
          repeat (quiet_step (exact cE _ _))
          refine wpQuiet_nil ?_
          intro _ hw'
          obtain ⟨⟨dq, osq⟩, hw''⟩ := hw'
          subst hw''
          have hb2 := below_regrown wr dq osq
          go_wp2
          go_roundw
          case rel => exact ⟨k + 1, by omega, by go_num, hb.trans (hb2.mono hb.size), Lib.hid (by rw [List.take_add_one, List.take_add_one, H.out, HS.out, HT.out, HST.out])⟩
          case measure => simp [intOf]; omega
        · have e1 : decide (s = t) = false := by simpa using hst
          go_wp2
          refine wp_region_quiet_below (by kernel_rfl) (by kernel_rfl) ?_
          repeat (quiet_step (exact cE _ _))
          refine wpQuiet_nil ?_
          intro _ hw'
          obtain ⟨⟨dq, osq⟩, hw''⟩ := hw'
          subst hw''
          have hb2 := below_regrown wr dq osq
          go_wp2
          go_ret
          refine ⟨ret_bool ?_, hb.trans (hb2.mono hb.size)⟩
          have : L ≠ M := fun h => by rw [h] at HS; have := HS.out; rw [HT.out] at this; exact hst (Option.some.inj this).symm
          simp [this]
      · go_wp2
        go_ret
        refine ⟨ret_bool ?_, hb⟩
        have h1 := H.out
        rw [List.take_of_length_le (by omega), List.take_of_length_le (by have := HL.out; omega)] at h1
        simp [h1]
  · have hL : ((L.length : Int) != M.length) = true := by simp; omega
    have : Hid (decide (L = M) = false) := Lib.hid (decide_eq_false (fun h => hlen (by rw [h])))
    go_enter Try.func28, Try.ntmps28
    go_wp2
    go_ret
    exact ⟨ret_bool this.out.symm, Below.refl _ _⟩
def runMv (k : Int) (n : Nat) : List Mv := (List.range n).map fun i : Nat => ⟨⟨k + 5 * (i : Int), k + 5 * (i : Int) + 1⟩, ⟨k + 5 * (i : Int) + 2, k + 5 * (i : Int) + 3⟩, k + 5 * (i : Int) + 4⟩
theorem runMv_len (k : Int) (n : Nat) : (runMv k n).length = n := by simp [runMv]
theorem runMv_at {k : Int} {n j : Nat} (h : j < n) : (runMv k n)[j]? = some ⟨⟨k + 5 * (j : Int), k + 5 * (j : Int) + 1⟩, ⟨k + 5 * (j : Int) + 2, k + 5 * (j : Int) + 3⟩, k + 5 * (j : Int) + 4⟩ := by simp [runMv, h]
def markedMv (L : List Mv) (k : Int) (j : Nat) : List Mv := runMv k j ++ L.drop j
theorem markedMv_zero (L : List Mv) (k : Int) : markedMv L k 0 = L := by simp [markedMv, runMv]
theorem markedMv_all (L : List Mv) (k : Int) {j : Nat} (h : L.length ≤ j) (h2 : j ≤ L.length) : markedMv L k j = runMv k L.length := by
  have : j = L.length := by omega
  subst this
  simp [markedMv]
theorem markedMv_len (L : List Mv) (k : Int) {j : Nat} (h : j ≤ L.length) : (markedMv L k j).length = L.length := by simp [markedMv, runMv]; omega
theorem markedMv_set {L : List Mv} {k : Int} {j : Nat} (h : j < L.length) : (markedMv L k j).set j ⟨⟨k + 5 * (j : Int), k + 5 * (j : Int) + 1⟩, ⟨k + 5 * (j : Int) + 2, k + 5 * (j : Int) + 3⟩, k + 5 * (j : Int) + 4⟩ = markedMv L k (j + 1) := by
  have e1 : (runMv k j).length = j := runMv_len k j
  rw [markedMv, markedMv, List.set_append_right _ _ (by omega), e1, Nat.sub_self, runMv, runMv, List.range_succ, List.map_append, List.append_assoc]
  congr 1
  rw [List.drop_eq_getElem_cons h, List.set_cons_zero]
  rfl
set_option maxHeartbeats 1600000 in
theorem markMoveS_any (base : Nat) (A : Option Addr) (c : Nat) (L : List Mv) (k0 : Int) (w : World) (hown : w.ownsRow base 84 5 (.slice A L.length c) L.length (moves L)) (hl : L.length ≤ 1048576) (h0 : 0 ≤ k0) (h1 : k0 ≤ 1000000000) : Calls Try.prog 30 #[.slice A L.length c, .int .i64 k0] w fun e w' =>
    e = .returned (.int .i64 (k0 + 5 * L.length)) ∧ w'.ownsRow base 84 5 (.slice A L.length c) L.length (moves (runMv k0 L.length)) ∧ w.grownBy w' (Value.slice A L.length c).ownBlock := by
  go_enter Try.func30, Try.ntmps30
  go_wp2
  go_loopw [1, 5] (fun kk i wr => ∃ j : Nat, j ≤ L.length ∧ i = .int .i64 j ∧ kk = .int .i64 (k0 + 5 * j) ∧ wr.ownsRow base 84 5 (.slice A L.length c) L.length (moves (markedMv L k0 j)) ∧ w.grownBy wr (Value.slice A L.length c).ownBlock) (fun _ i _ => L.length - (intOf i).toNat)
  case atStart => exact ⟨0, by omega, rfl, by simp, (markedMv_zero L k0).symm ▸ hown, grown_refl _ _⟩
  case round =>
    obtain ⟨j, hj, rfl, rfl, ho, hg⟩ := hrel
    by_cases hlt : j < L.length
    · obtain ⟨g, rfl, hg1, hg2⟩ := own_addr ho (by omega)
      have hpl : (moves (markedMv L k0 j)).length = L.length * 5 := by rw [moves_len, markedMv_len L k0 hj]
      obtain ⟨old0, hold0⟩ := some_of_lt (L := moves (markedMv L k0 j)) (k := j * 5) (by omega)
      have hc0 := (ho.cellAt (j * 5) (by omega)).trans hold0
      have hf0 := ho.frozenAt (j * 5)
      obtain ⟨old1, hold1⟩ := some_of_lt (L := moves (markedMv L k0 j)) (k := j * 5 + 1) (by omega)
      have hc1 := (ho.cellAt (j * 5 + 1) (by omega)).trans hold1
      have hf1 := ho.frozenAt (j * 5 + 1)
      obtain ⟨old2, hold2⟩ := some_of_lt (L := moves (markedMv L k0 j)) (k := j * 5 + 2) (by omega)
      have hc2 := (ho.cellAt (j * 5 + 2) (by omega)).trans hold2
      have hf2 := ho.frozenAt (j * 5 + 2)
      obtain ⟨old3, hold3⟩ := some_of_lt (L := moves (markedMv L k0 j)) (k := j * 5 + 3) (by omega)
      have hc3 := (ho.cellAt (j * 5 + 3) (by omega)).trans hold3
      have hf3 := ho.frozenAt (j * 5 + 3)
      obtain ⟨old4, hold4⟩ := some_of_lt (L := moves (markedMv L k0 j)) (k := j * 5 + 4) (by omega)
      have hc4 := (ho.cellAt (j * 5 + 4) (by omega)).trans hold4
      have hf4 := ho.frozenAt (j * 5 + 4)
      have st0 := ho.stored (j * 5) (.int .i64 (k0 + 5 * j))
      have st1 := st0.1.stored (j * 5 + 1) (.int .i64 (k0 + 5 * j + 1))
      have st2 := st1.1.stored (j * 5 + 2) (.int .i64 (k0 + 5 * j + 2))
      have st3 := st2.1.stored (j * 5 + 3) (.int .i64 (k0 + 5 * j + 3))
      have st4 := st3.1.stored (j * 5 + 4) (.int .i64 (k0 + 5 * j + 4))
      have st := st4.1
      rw [← moves_set _ j ⟨⟨k0 + 5 * j, k0 + 5 * j + 1⟩, ⟨k0 + 5 * j + 2, k0 + 5 * j + 3⟩, k0 + 5 * j + 4⟩, markedMv_set hlt] at st
      have HST := Lib.hid st
      have HG := Lib.hid (grown_trans (grown_trans (grown_trans (grown_trans (grown_trans hg st0.2) st1.2) st2.2) st3.2) st4.2)
      clear hpl st ho hg hold0 hold1 hold2 hold3 hold4 st0 st1 st2 st3 st4
      go_wp2
      go_roundw
      case rel => exact ⟨j + 1, by omega, by go_num, by go_num, (by first | (with_reducible exact HST.out) | (have h := HST.out; simp only [Nat.add_assoc, Int.add_assoc, Nat.reduceAdd, Int.reduceAdd] at h ⊢; exact h)), by first | (with_reducible exact HG.out) | (have h := HG.out; simp only [Nat.add_assoc, Int.add_assoc, Nat.reduceAdd, Int.reduceAdd] at h ⊢; exact h)⟩
      case measure => simp [intOf]; omega
    · go_wp2
      go_ret
      have e1 : j = L.length := by omega
      subst e1
      rw [markedMv_all L k0 (Nat.le_refl _) (Nat.le_refl _)] at ho
      exact ⟨rfl, ho, hg⟩
theorem heldMoveS_any (A : Option Addr) (n c : Nat) (k0 : Int) (w : World) (hm : Mem w A (moves (runMv k0 n))) (hl : n ≤ 1048576) (h0 : 0 ≤ k0) (h1 : k0 ≤ 1000000000) : Calls Try.prog 31 #[.slice A n c, .int .i64 k0] w fun e w' =>
    e = .returned (.int .i64 (k0 + 5 * n)) ∧ w = w' := by
  go_enter Try.func31, Try.ntmps31
  go_wp2
  go_loop [1, 5] (fun kk i => ∃ j : Nat, j ≤ n ∧ i = .int .i64 j ∧ kk = .int .i64 (k0 + 5 * j)) (fun _ i => n - (intOf i).toNat)
  case atStart => exact ⟨0, by omega, rfl, by simp⟩
  case round =>
    obtain ⟨j, hj, rfl, rfl⟩ := hrel
    by_cases hlt : j < n
    · obtain ⟨b, off, rfl, h0, h1, h2, h3, h4⟩ := hm.move (runMv_at hlt)
      go_wp2
      go_round
      case rel => exact ⟨j + 1, by omega, by go_num, by go_num⟩
      case measure => simp [intOf]; omega
    · go_wp2
      go_ret
      exact ⟨ret_int (by omega), rfl⟩
end Go.Proofs.Ytdklindbfcmilaa
