/-
  Row: a struct of 3 numbers (spots among them); lists of it as cells; the laws' own small functions on it.
-/
import Derived.Test.YtdmgffcabjpihaaDoorCpySp
import Derived.Test.YtdmgffcabjpihaaDoorFrame
import Derived.Lib.QuietBelow
namespace Go.Proofs.YtdmgffcabjpihaaDoor
open Go.RowKit Go.Sort

structure Rw where
  c : Int
  t : Sp
deriving DecidableEq

def okRw (s : Rw) : Prop := okInt s.c ∧ okSp s.t
def rows (L : List Rw) : List Value := L.flatMap fun s => [Value.int .i64 s.c, Value.int .i64 s.t.x, Value.int .i64 s.t.y]
theorem rows_len (L : List Rw) : (rows L).length = L.length * 3 := flat_len _ 3 (fun _ => rfl) L
theorem rows_snoc (L : List Rw) (s : Rw) : rows (L ++ [s]) = rows L ++ [Value.int .i64 s.c, Value.int .i64 s.t.x, Value.int .i64 s.t.y] := by simp [rows]
theorem Mem.row {w : World} {A : Option Addr} {L : List Rw} (h : Mem w A (rows L)) {k : Nat} {s : Rw} (hk : L[k]? = some s) :
    ∃ b off, A = some ⟨b, off, none⟩ ∧ w.cell? ⟨b, off + k * 3, none⟩ = some (.int .i64 s.c) ∧ w.cell? ⟨b, off + k * 3 + 1, none⟩ = some (.int .i64 s.t.x) ∧ w.cell? ⟨b, off + k * 3 + 2, none⟩ = some (.int .i64 s.t.y) := by
  obtain ⟨b, off, e, hc⟩ := Mem.elem (sz := 3) (fun _ => rfl) h hk (by omega)
  exact ⟨b, off, e, hc 0 _ rfl, hc 1 _ rfl, hc 2 _ rfl⟩
theorem rows_set : ∀ (L : List Rw) (k : Nat) (s : Rw), rows (L.set k s) = ((((((rows L).set (k * 3) (.int .i64 s.c))).set (k * 3 + 1) (.int .i64 s.t.x))).set (k * 3 + 2) (.int .i64 s.t.y))
  | [], _, _ => by simp [rows]
  | x :: L, 0, n => by simp [rows]
  | x :: L, k + 1, n => by
    have := rows_set L k n
    have e1 : (k + 1) * 3 = k * 3 + 1 + 1 + 1 := by omega
    simp only [rows, List.set_cons_succ, List.flatMap_cons, List.cons_append, List.nil_append, e1] at *
    rw [this]
theorem info_row : (Tryd.prog.info? 55).map (fun i => (i.zero, i.size, i.bytes)) = some (some (.agg #[.int .i64 0, .int .i64 0, .int .i64 0]), 3, 24) := by kernel_rfl
set_option maxRecDepth 100000 in
theorem szRowS_yes (A : Option Addr) (n c : Nat) (left : Int) (w : World) (h2 : (n : Int) ≤ left) (h0 : 0 ≤ left) (h1 : left ≤ 1048576) : Calls Tryd.prog 14 #[.slice A n c, .int .i64 left] w fun e w' => e = .returned (.int .i64 (left - n)) ∧ w = w' := by
  go_enter Tryd.func14, Tryd.ntmps14
  go_wp2
  go_ret
  exact ⟨rfl, rfl⟩
set_option maxRecDepth 100000 in
theorem szRowS_no (A : Option Addr) (n c : Nat) (left : Int) (w : World) (h2 : left < (n : Int)) (h3 : n ≤ 9223372036854775807) (h0 : 0 ≤ left) (h1 : left ≤ 1048576) : Calls Tryd.prog 14 #[.slice A n c, .int .i64 left] w fun e w' => e = .returned (.int .i64 (-1)) ∧ w = w' := by
  go_enter Tryd.func14, Tryd.ntmps14
  go_wp2
  go_ret
  exact ⟨rfl, rfl⟩
set_option maxHeartbeats 1600000 in
set_option maxRecDepth 100000 in
theorem toRow_any (s : Rw) (w : World) : Calls Tryd.prog 38 #[.agg #[.int .i64 s.c, .int .i64 s.t.x, .int .i64 s.t.y]] w fun e w' => e = .returned (.agg #[.int .i64 s.c, .int .i64 s.t.x, .int .i64 s.t.y]) ∧ Below w.heap.size w w' := by
  go_enter Tryd.func38, Tryd.ntmps38
  go_wp2_with (go_at_call 17; refine (toSpot_any _ _).mono ?_; rintro e w' ⟨rfl, hq⟩; obtain ⟨hz, hc, hf⟩ := bel hq; (try simp at hz); (try have gz1 : w.heap.size < w'.heap.size := by omega); (try have gz2 : w.heap.size + 1 < w'.heap.size := by omega); (try have gz3 : wr.heap.size < w'.heap.size := by omega))
  refine bodyPost_ret (v := .agg #[.int .i64 s.c, .int .i64 s.t.x, .int .i64 s.t.y]) (by simp [results, Tryd.results38, go_sem, hc, hz]) rfl ⟨rfl, ?_⟩
  (repeat (first | exact Below.refl _ _ | assumption | (refine Below.alloc ?_ (by first | omega | (simp; done) | (simp; omega)) _) | (refine Below.setCell ?_ (by first | omega | (simp; done) | (simp; omega)) _) | (refine Below.drew ?_) | (refine Below.drewN ?_ _) | (refine Below.next (by assumption) ?_ (by first | omega | (simp; done) | (simp; omega)))))
set_option maxRecDepth 100000 in
theorem eqRow_any (a b : Rw) (w : World) : Calls Tryd.prog 44 #[.agg #[.int .i64 a.c, .int .i64 a.t.x, .int .i64 a.t.y], .agg #[.int .i64 b.c, .int .i64 b.t.x, .int .i64 b.t.y]] w fun e w' => e = .returned (.bool (decide (a = b))) ∧ Below w.heap.size w w' := by
  obtain ⟨a0, a1⟩ := a
  obtain ⟨b0, b1⟩ := b
  by_cases h0 : a0 = b0
  · subst h0
    by_cases h1 : a1 = b1
    · have d1 : decide (a1 = b1) = true := by simpa using h1
      have g1 := Lib.hid h1
      clear h1
      go_enter Tryd.func44, Tryd.ntmps44
      go_wp2_with (go_at_call 21; refine (eqSpot_any _ _ _).mono ?_; rintro e w' ⟨rfl, o1, o2, rfl⟩)
      go_ret
      exact ⟨ret_bool (by have := g1.out; subst this; simp), by (repeat (first | exact Below.refl _ _ | assumption | (refine Below.alloc ?_ (by first | omega | (simp; done) | (simp; omega)) _) | (refine Below.setCell ?_ (by first | omega | (simp; done) | (simp; omega)) _) | (refine Below.drew ?_) | (refine Below.drewN ?_ _) | (refine Below.next (by assumption) ?_ (by first | omega | (simp; done) | (simp; omega)))))⟩
    · have e2 : decide (a1 = b1) = false := by simpa using h1
      have g1 := Lib.hid h1
      clear h1
      go_enter Tryd.func44, Tryd.ntmps44
      go_wp2_with (go_at_call 21; refine (eqSpot_any _ _ _).mono ?_; rintro e w' ⟨rfl, o1, o2, rfl⟩)
      go_ret
      exact ⟨ret_bool (by have := g1.out; simp [this]), by (repeat (first | exact Below.refl _ _ | assumption | (refine Below.alloc ?_ (by first | omega | (simp; done) | (simp; omega)) _) | (refine Below.setCell ?_ (by first | omega | (simp; done) | (simp; omega)) _) | (refine Below.drew ?_) | (refine Below.drewN ?_ _) | (refine Below.next (by assumption) ?_ (by first | omega | (simp; done) | (simp; omega)))))⟩
  · have e2 : (a0 != b0) = true := by simpa using h0
    have g0 := Lib.hid h0
    clear h0
    go_enter Tryd.func44, Tryd.ntmps44
    go_wp2_with (go_at_call 21; refine (eqSpot_any _ _ _).mono ?_; rintro e w' ⟨rfl, o1, o2, rfl⟩)
    go_ret
    exact ⟨ret_bool (by have := g0.out; simp [this]), by (repeat (first | exact Below.refl _ _ | assumption | (refine Below.alloc ?_ (by first | omega | (simp; done) | (simp; omega)) _) | (refine Below.setCell ?_ (by first | omega | (simp; done) | (simp; omega)) _) | (refine Below.drew ?_) | (refine Below.drewN ?_ _) | (refine Below.next (by assumption) ?_ (by first | omega | (simp; done) | (simp; omega)))))⟩
set_option maxHeartbeats 1600000 in
set_option maxRecDepth 100000 in
theorem toRowS_any (A : Option Addr) (c : Nat) (L : List Rw) (w : World) (hm : Mem w A (rows L)) (hl : L.length ≤ 1048576) : Calls Tryd.prog 18 #[.slice A L.length c] w fun e w' =>
    ∃ A' c', e = .returned (.slice A' L.length c') ∧ w'.ownsRow w.heap.size 55 3 (.slice A' L.length c') L.length (rows L) ∧ Below w.heap.size w w' := by
  obtain ⟨i0, hi, hz0, hz1, hz2⟩ := info_parts info_row
  go_enter Tryd.func18, Tryd.ntmps18
  go_wp2_with (at_make; refine wpList_make_full _ rfl _ _ 31 rfl w.heap.size 55 i0 (.agg #[.int .i64 0, .int .i64 0, .int .i64 0]) 3 Tryd.underlying31 hi hz0 hz1 _ _ _ _ L.length rfl rfl rfl rfl ?b2 ?b3 (Nat.le_refl _) ?_)
  case b2 => rw [hz2]; omega
  case b3 => unfold maxLen; omega
  intro w0 hown0 hgrow0
  have hb0 := grown_below hgrow0
  have e0 : Hid ((madeCells #[.int .i64 0, .int .i64 0, .int .i64 0] (L.length * 3)).toList = rows (part L ⟨0, ⟨0, 0⟩⟩ 0)) := Lib.hid (by rw [part_zero]; exact made_flat (fun s : Rw => [Value.int .i64 s.c, Value.int .i64 s.t.x, Value.int .i64 s.t.y]) 3 ⟨0, ⟨0, 0⟩⟩ (by omega) (fun _ => rfl) L.length)
  go_wp2
  go_loopw [4] (fun i wr => ∃ k : Nat, k ≤ L.length ∧ i = .int .i64 k ∧ wr.ownsRow w.heap.size 55 3 (.slice (some ⟨w.heap.size, 0, none⟩) L.length L.length) L.length (rows (part L ⟨0, ⟨0, 0⟩⟩ k)) ∧ Below w.heap.size w wr) (fun i _ => L.length - (intOf i).toNat)
  case atStart => exact ⟨0, by omega, rfl, e0.out ▸ hown0, hb0⟩
  case round =>
    obtain ⟨k, hk, rfl, hown, hb⟩ := hrel
    by_cases hlt : k < L.length
    · obtain ⟨s, hs⟩ := some_of_lt hlt
      obtain ⟨b, off, rfl, h0, h1, h2⟩ := (hm.below hb).row hs
      have hpl : (rows (part L ⟨0, ⟨0, 0⟩⟩ k)).length = L.length * 3 := by rw [rows_len, part_len L _ hk]
      obtain ⟨old0, hold0⟩ := some_of_lt (L := rows (part L ⟨0, ⟨0, 0⟩⟩ k)) (k := k * 3) (by omega)
      have H0 := Lib.hid hold0
      obtain ⟨old1, hold1⟩ := some_of_lt (L := rows (part L ⟨0, ⟨0, 0⟩⟩ k)) (k := k * 3 + 1) (by omega)
      have H1 := Lib.hid hold1
      obtain ⟨old2, hold2⟩ := some_of_lt (L := rows (part L ⟨0, ⟨0, 0⟩⟩ k)) (k := k * 3 + 2) (by omega)
      have H2 := Lib.hid hold2
      have HS := Lib.hid hs
      have HO := Lib.hid hown
      clear hs hpl hown hold0 hold1 hold2
      go_wp2_with fail
      refine (toRow_any s wr).mono ?_
      rintro e w1 ⟨rfl, hq⟩
      have ho := own_below HO.out hq
      have hc0 := (ho.cellAt (k * 3) (by omega)).trans H0.out
      have hf0 := ho.frozenAt (k * 3)
      have hc1 := (ho.cellAt (k * 3 + 1) (by omega)).trans H1.out
      have hf1 := ho.frozenAt (k * 3 + 1)
      have hc2 := (ho.cellAt (k * 3 + 2) (by omega)).trans H2.out
      have hf2 := ho.frozenAt (k * 3 + 2)
      have st0 := (ho.stored (k * 3) (.int .i64 s.c)).1
      have st1 := (st0.stored (k * 3 + 1) (.int .i64 s.t.x)).1
      have st2 := (st1.stored (k * 3 + 2) (.int .i64 s.t.y)).1
      rw [← rows_set, part_set HS.out] at st2
      have HST := Lib.hid st2
      have hq' := Lib.hid hq
      clear ho hq st0 st1 st2
      go_wp2
      go_roundw
      case rel => exact ⟨k + 1, by omega, by go_num, (by first | (with_reducible exact HST.out) | (have h := HST.out; simp only [Nat.add_assoc, Int.add_assoc, Nat.reduceAdd, Int.reduceAdd] at h ⊢; exact h)), (((hb.trans (hq'.out.mono hb.size)).setCell (Nat.le_refl _) _).setCell (Nat.le_refl _) _).setCell (Nat.le_refl _) _⟩
      case measure => simp [intOf]; omega
    · go_wp2
      go_ret
      have : part L ⟨0, ⟨0, 0⟩⟩ k = L := part_all L _ (by omega)
      rw [this] at hown
      exact ⟨_, _, rfl, hown, hb⟩
set_option maxHeartbeats 1600000 in
set_option maxRecDepth 100000 in
theorem eqRowS_any (A B : Option Addr) (c d : Nat) (L M : List Rw) (w : World) (hm : Mem w A (rows L)) (hn : Mem w B (rows M)) (hl : L.length ≤ 1048576) (_ : M.length ≤ 1048576) : Calls Tryd.prog 22 #[.slice A L.length c, .slice B M.length d] w fun e w' =>
    e = .returned (.bool (decide (L = M))) ∧ Below w.heap.size w w' := by
  by_cases hlen : L.length = M.length
  · have hL : ((L.length : Int) != M.length) = false := by simp [hlen]
    have HL := Lib.hid hlen
    clear hlen
    go_enter Tryd.func22, Tryd.ntmps22
    go_wp2
    go_loopw [5] (fun i wr => ∃ k : Nat, k ≤ L.length ∧ i = .int .i64 k ∧ Below w.heap.size w wr ∧ Hid (L.take k = M.take k)) (fun i _ => L.length - (intOf i).toNat)
    case atStart => exact ⟨0, by omega, rfl, Below.refl _ _, Lib.hid (by simp)⟩
    case round =>
      obtain ⟨k, hk, rfl, hb, H⟩ := hrel
      by_cases hlt : k < L.length
      · obtain ⟨s, hs⟩ := some_of_lt hlt
        obtain ⟨t, ht⟩ := some_of_lt (L := M) (k := k) (by have := HL.out; omega)
        obtain ⟨b, off, rfl, h0, h1, h2⟩ := (hm.below hb).row hs
        obtain ⟨b2, off2, rfl, g0, g1, g2⟩ := (hn.below hb).row ht
        have hlt2 : k < M.length := by have := HL.out; omega
        have HS := Lib.hid hs
        have HT := Lib.hid ht
        clear hs ht
        have k0 := cell_regrown h0
        have q0 := cell_regrown g0
        have k1 := cell_regrown h1
        have q1 := cell_regrown g1
        have k2 := cell_regrown h2
        have q2 := cell_regrown g2
        have cE : ∀ dd os, Calls Tryd.prog 44 #[.agg #[.int .i64 s.c, .int .i64 s.t.x, .int .i64 s.t.y], .agg #[.int .i64 t.c, .int .i64 t.t.x, .int .i64 t.t.y]] (grow (redrawn wr dd) os) fun e w'' => e = .returned (.bool (decide (s = t))) ∧ ∃ p : Regrown, w'' = grow (redrawn wr p.d) p.os :=
          fun dd os => Calls.regrown_of (eqRow_any s t _)
        by_cases hst : s = t
        · have e1 : decide (s = t) = true := by simpa using hst
          have HST := Lib.hid hst
          clear hst
          go_wp2
          refine wp_region_quiet_below (by kernel_rfl) (by kernel_rfl) ?_
          repeat (quiet_step (exact cE _ _))
          refine wpQuiet_nil ?_
          intro _ hw'
          obtain ⟨⟨dq, osq⟩, hw''⟩ := hw'
          subst hw''
          have hb2 := below_regrown wr dq osq
          go_wp2
          go_roundw
          case rel => exact ⟨k + 1, by omega, by go_num, hb.trans (hb2.mono hb.size), Lib.hid (by rw [List.take_add_one, List.take_add_one, H.out, HS.out, HT.out, HST.out])⟩
          case measure => simp [intOf]; omega
        · have e1 : decide (s = t) = false := by simpa using hst
          go_wp2
          refine wp_region_quiet_below (by kernel_rfl) (by kernel_rfl) ?_
          repeat (quiet_step (exact cE _ _))
          refine wpQuiet_nil ?_
          intro _ hw'
          obtain ⟨⟨dq, osq⟩, hw''⟩ := hw'
          subst hw''
          have hb2 := below_regrown wr dq osq
          go_wp2
          go_ret
          refine ⟨ret_bool ?_, hb.trans (hb2.mono hb.size)⟩
          have : L ≠ M := fun h => by rw [h] at HS; have := HS.out; rw [HT.out] at this; exact hst (Option.some.inj this).symm
          simp [this]
      · go_wp2
        go_ret
        refine ⟨ret_bool ?_, hb⟩
        have h1 := H.out
        rw [List.take_of_length_le (by omega), List.take_of_length_le (by have := HL.out; omega)] at h1
        simp [h1]
  · have hL : ((L.length : Int) != M.length) = true := by simp; omega
    have : Hid (decide (L = M) = false) := Lib.hid (decide_eq_false (fun h => hlen (by rw [h])))
    go_enter Tryd.func22, Tryd.ntmps22
    go_wp2
    go_ret
    exact ⟨ret_bool this.out.symm, Below.refl _ _⟩
def runRw (k : Int) (n : Nat) : List Rw := (List.range n).map fun i : Nat => ⟨k + 3 * (i : Int), ⟨k + 3 * (i : Int) + 1, k + 3 * (i : Int) + 2⟩⟩
theorem runRw_len (k : Int) (n : Nat) : (runRw k n).length = n := by simp [runRw]
theorem runRw_at {k : Int} {n j : Nat} (h : j < n) : (runRw k n)[j]? = some ⟨k + 3 * (j : Int), ⟨k + 3 * (j : Int) + 1, k + 3 * (j : Int) + 2⟩⟩ := by simp [runRw, h]
def markedRw (L : List Rw) (k : Int) (j : Nat) : List Rw := runRw k j ++ L.drop j
theorem markedRw_zero (L : List Rw) (k : Int) : markedRw L k 0 = L := by simp [markedRw, runRw]
theorem markedRw_all (L : List Rw) (k : Int) {j : Nat} (h : L.length ≤ j) (h2 : j ≤ L.length) : markedRw L k j = runRw k L.length := by
  have : j = L.length := by omega
  subst this
  simp [markedRw]
theorem markedRw_len (L : List Rw) (k : Int) {j : Nat} (h : j ≤ L.length) : (markedRw L k j).length = L.length := by simp [markedRw, runRw]; omega
theorem markedRw_set {L : List Rw} {k : Int} {j : Nat} (h : j < L.length) : (markedRw L k j).set j ⟨k + 3 * (j : Int), ⟨k + 3 * (j : Int) + 1, k + 3 * (j : Int) + 2⟩⟩ = markedRw L k (j + 1) := by
  have e1 : (runRw k j).length = j := runRw_len k j
  rw [markedRw, markedRw, List.set_append_right _ _ (by omega), e1, Nat.sub_self, runRw, runRw, List.range_succ, List.map_append, List.append_assoc]
  congr 1
  rw [List.drop_eq_getElem_cons h, List.set_cons_zero]
  rfl
set_option maxHeartbeats 1600000 in
set_option maxRecDepth 100000 in
theorem markRowS_any (base : Nat) (A : Option Addr) (c : Nat) (L : List Rw) (k0 : Int) (w : World) (hown : w.ownsRow base 55 3 (.slice A L.length c) L.length (rows L)) (hl : L.length ≤ 1048576) (h0 : 0 ≤ k0) (h1 : k0 ≤ 1000000000) : Calls Tryd.prog 33 #[.slice A L.length c, .int .i64 k0] w fun e w' =>
    e = .returned (.int .i64 (k0 + 3 * L.length)) ∧ w'.ownsRow base 55 3 (.slice A L.length c) L.length (rows (runRw k0 L.length)) ∧ w.grownBy w' (Value.slice A L.length c).ownBlock := by
  go_enter Tryd.func33, Tryd.ntmps33
  go_wp2
  go_loopw [1, 5] (fun kk i wr => ∃ j : Nat, j ≤ L.length ∧ i = .int .i64 j ∧ kk = .int .i64 (k0 + 3 * j) ∧ wr.ownsRow base 55 3 (.slice A L.length c) L.length (rows (markedRw L k0 j)) ∧ w.grownBy wr (Value.slice A L.length c).ownBlock) (fun _ i _ => L.length - (intOf i).toNat)
  case atStart => exact ⟨0, by omega, rfl, by simp, (markedRw_zero L k0).symm ▸ hown, grown_refl _ _⟩
  case round =>
    obtain ⟨j, hj, rfl, rfl, ho, hg⟩ := hrel
    by_cases hlt : j < L.length
    · obtain ⟨g, rfl, hg1, hg2⟩ := own_addr ho (by omega)
      have hpl : (rows (markedRw L k0 j)).length = L.length * 3 := by rw [rows_len, markedRw_len L k0 hj]
      obtain ⟨old0, hold0⟩ := some_of_lt (L := rows (markedRw L k0 j)) (k := j * 3) (by omega)
      have hc0 := (ho.cellAt (j * 3) (by omega)).trans hold0
      have hf0 := ho.frozenAt (j * 3)
      obtain ⟨old1, hold1⟩ := some_of_lt (L := rows (markedRw L k0 j)) (k := j * 3 + 1) (by omega)
      have hc1 := (ho.cellAt (j * 3 + 1) (by omega)).trans hold1
      have hf1 := ho.frozenAt (j * 3 + 1)
      obtain ⟨old2, hold2⟩ := some_of_lt (L := rows (markedRw L k0 j)) (k := j * 3 + 2) (by omega)
      have hc2 := (ho.cellAt (j * 3 + 2) (by omega)).trans hold2
      have hf2 := ho.frozenAt (j * 3 + 2)
      have st0 := ho.stored (j * 3) (.int .i64 (k0 + 3 * j))
      have st1 := st0.1.stored (j * 3 + 1) (.int .i64 (k0 + 3 * j + 1))
      have st2 := st1.1.stored (j * 3 + 2) (.int .i64 (k0 + 3 * j + 2))
      have st := st2.1
      rw [← rows_set _ j ⟨k0 + 3 * j, ⟨k0 + 3 * j + 1, k0 + 3 * j + 2⟩⟩, markedRw_set hlt] at st
      have HST := Lib.hid st
      have HG := Lib.hid (grown_trans (grown_trans (grown_trans hg st0.2) st1.2) st2.2)
      clear hpl st ho hg hold0 hold1 hold2 st0 st1 st2
      go_wp2
      go_roundw
      case rel => exact ⟨j + 1, by omega, by go_num, by go_num, (by first | (with_reducible exact HST.out) | (have h := HST.out; simp only [Nat.add_assoc, Int.add_assoc, Nat.reduceAdd, Int.reduceAdd] at h ⊢; exact h)), by first | (with_reducible exact HG.out) | (have h := HG.out; simp only [Nat.add_assoc, Int.add_assoc, Nat.reduceAdd, Int.reduceAdd] at h ⊢; exact h)⟩
      case measure => simp [intOf]; omega
    · go_wp2
      go_ret
      have e1 : j = L.length := by omega
      subst e1
      rw [markedRw_all L k0 (Nat.le_refl _) (Nat.le_refl _)] at ho
      exact ⟨rfl, ho, hg⟩
set_option maxRecDepth 100000 in
theorem heldRowS_any (A : Option Addr) (n c : Nat) (k0 : Int) (w : World) (hm : Mem w A (rows (runRw k0 n))) (hl : n ≤ 1048576) (h0 : 0 ≤ k0) (h1 : k0 ≤ 1000000000) : Calls Tryd.prog 34 #[.slice A n c, .int .i64 k0] w fun e w' =>
    e = .returned (.int .i64 (k0 + 3 * n)) ∧ w = w' := by
  go_enter Tryd.func34, Tryd.ntmps34
  go_wp2
  go_loop [1, 5] (fun kk i => ∃ j : Nat, j ≤ n ∧ i = .int .i64 j ∧ kk = .int .i64 (k0 + 3 * j)) (fun _ i => n - (intOf i).toNat)
  case atStart => exact ⟨0, by omega, rfl, by simp⟩
  case round =>
    obtain ⟨j, hj, rfl, rfl⟩ := hrel
    by_cases hlt : j < n
    · obtain ⟨b, off, rfl, h0, h1, h2⟩ := hm.row (runRw_at hlt)
      go_wp2
      go_round
      case rel => exact ⟨j + 1, by omega, by go_num, by go_num⟩
      case measure => simp [intOf]; omega
    · go_wp2
      go_ret
      exact ⟨ret_int (by omega), rfl⟩
theorem Rd_row {H : Type} (enc : TypeId × Value → H) (w : World) : Rd enc Tryd.prog w 69 3 (fun s : Rw => [Value.int .i64 s.c, Value.int .i64 s.t.x, Value.int .i64 s.t.y]) okRw :=
  (Rd_struct2 Tryd.underlying69 (by kernel_rfl) rfl rfl (Rd_i enc w) (Rd_spot enc w)).conv (fun a => (⟨a.1, a.2⟩ : Rw)) (fun _ => rfl) (fun _ => rfl) (fun _ h => h)
end Go.Proofs.YtdmgffcabjpihaaDoor
