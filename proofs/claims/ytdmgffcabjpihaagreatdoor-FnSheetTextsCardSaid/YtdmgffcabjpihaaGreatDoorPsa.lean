/-
  What the reference reads: numbers, pieces, spots.
-/
import Derived.Test.YtdmgffcabjpihaaGreatDoorPrp
import Derived.Test.YtdmgffcabjpihaaGreatDoorSht
import Derived.Deep.RegionHeld3
import Derived.Deep.DeepCutAuto
namespace Go.Proofs.YtdmgffcabjpihaaGreatDoor
open Go.RowKit
open Go.Sort (grow)
open Go.Lib (decDigits)

theorem bs_at {l : List UInt8} {k : Nat} {b : UInt8} (h : l[k]? = some b) (hk : k < (bs l).size) : (bs l)[k]'hk = b := by
  obtain ⟨h1, h2⟩ := List.getElem?_eq_some_iff.1 h
  rw [← h2]
  rfl
/-- A byte of a string. -/
theorem byte_at {l : List UInt8} {k : Nat} {b : UInt8} (h : l[k]? = some b) (w : World) : Sem.run Tryz.prog (Instr.index 9 (.string (bs l)) (.int .i64 k)) w = .ok (.int .u8 b.toNat) w := by
  have hk : k < (bs l).size := by rw [bs_size]; exact (List.getElem?_eq_some_iff.1 h).1
  rw [run_index_string _ _ _ _ _ Tryz.underlying9, dif_pos ⟨by omega, by omega⟩]
  simp only [Int.toNat_natCast]
  rw [bs_at h]
def rdV (l : List UInt8) : Int := match num 6 l with
  | some n => n
  | none => -1

theorem dv_lt : ∀ (k : Nat) (l : List UInt8), l.length = k → l.all dig = true → dv l < 10 ^ k := by
  intro k
  induction k with
  | zero =>
    intro l h _
    have : l = [] := List.eq_nil_of_length_eq_zero h
    subst this
    decide
  | succ k ih =>
    intro l h1 h2
    obtain ⟨m, x, rfl⟩ : ∃ m x, l = m ++ [x] := ⟨l.dropLast, l.getLast (by intro e; simp [e] at h1), (List.dropLast_concat_getLast _).symm⟩
    rw [List.all_append, Bool.and_eq_true] at h2
    have hm := ih m (by simp at h1; omega) h2.1
    have hx : 48 ≤ x.toNat ∧ x.toNat ≤ 57 := by simpa [dig] using h2.2
    rw [dv_snoc, Nat.pow_succ]
    omega
theorem dv_take {l : List UInt8} {k : Nat} {b : UInt8} (h : l[k]? = some b) : dv (l.take (k + 1)) = 10 * dv (l.take k) + (b.toNat - 48) := by
  rw [List.take_add_one, h]
  exact dv_snoc _ _
theorem digs_take {l : List UInt8} {k : Nat} {b : UInt8} (h : l[k]? = some b) (h1 : (l.take k).all dig = true) (h2 : dig b = true) : (l.take (k + 1)).all dig = true := by
  rw [List.take_add_one, h, List.all_append, h1]
  simp [h2]
theorem num_short {K : Nat} {l : List UInt8} (h : l.length = 0 ∨ K < l.length) : num K l = none := by
  unfold num
  rw [if_neg]
  simp only [Bool.and_eq_true, decide_eq_true_eq, not_and]
  omega
theorem num_zero {K : Nat} {l : List UInt8} {b : UInt8} (h : l[0]? = some b) (hb : b.toNat = 48) (h1 : 1 < l.length) : num K l = none := by
  unfold num
  rw [if_neg]
  have e : b = 48 := UInt8.toNat_inj.1 hb
  have h2 : l.head? = some 48 := by rw [List.head?_eq_getElem?, h, e]
  simp [h2, h1]
theorem num_bad {K : Nat} {l : List UInt8} {k : Nat} {b : UInt8} (h : l[k]? = some b) (hb : dig b = false) : num K l = none := by
  unfold num
  rw [if_neg]
  have h2 : l.all dig = false := by
    rw [List.all_eq_false]
    exact ⟨b, List.mem_of_getElem? h, by simp [hb]⟩
  simp [h2]
theorem num_good {K : Nat} {l : List UInt8} {b : UInt8} (h : l[0]? = some b) (h0 : ¬ (b.toNat = 48 ∧ 1 < l.length)) (h1 : 1 ≤ l.length) (h2 : l.length ≤ K) {k : Nat} (hk : l.length ≤ k) (h3 : (l.take k).all dig = true) : num K l = some (dv (l.take k)) := by
  rw [List.take_of_length_le hk] at *
  unfold num
  rw [if_pos]
  simp only [Bool.and_eq_true, decide_eq_true_eq, Bool.not_eq_true', Bool.and_eq_false_iff, decide_eq_false_iff_not]
  refine ⟨⟨h1, h2⟩, ?_, h3⟩
  by_cases h5 : 1 < l.length
  · left
    intro e
    rw [List.head?_eq_getElem?, h] at e
    cases e
    exact h0 ⟨rfl, h5⟩
  · exact .inr h5
theorem dig_iff {b : UInt8} : dig b = true ↔ 48 ≤ b.toNat ∧ b.toNat ≤ 57 := by simp [dig]
theorem dig_no {b : UInt8} (h : ¬ (48 ≤ b.toNat ∧ b.toNat ≤ 57)) : dig b = false := by
  cases e : dig b
  · rfl
  · exact absurd (dig_iff.1 e) h

set_option maxHeartbeats 1600000 in
set_option maxRecDepth 100000 in
theorem l1Read_any (l : List UInt8) (hl : l.length ≤ 1048576) (w : World) : Calls Tryz.prog 51 #[.string (bs l)] w fun e w' => e = .returned (.int .i64 (rdV l)) ∧ w = w' := by
  have hz := bs_size l
  by_cases h1 : l.length = 0 ∨ 6 < l.length
  · have HR := Lib.hid (num_short h1)
    have hi : inR (l.length : Int) 1 6 = false := by
      cases e : inR (l.length : Int) 1 6
      · rfl
      · have := inR_iff.1 e; omega
    have HI := Lib.hid hi
    clear hi h1
    go_enter Tryz.func51, Tryz.ntmps51
    go_wp2_with fail
    refine (l1In_any _ _ _ _).mono ?_
    rintro e _ ⟨rfl, rfl⟩
    rw [HI.out]
    go_wp2
    go_ret
    exact ⟨ret_int (by rw [rdV, HR.out]), rfl⟩
  have hi : inR (l.length : Int) 1 6 = true := inR_iff.2 ⟨by omega, by omega⟩
  obtain ⟨b, hb⟩ := some_of_lt (L := l) (k := 0) (by omega)
  have hx : ∀ w, Sem.run Tryz.prog (Instr.index 9 (.string (bs l)) (.int .i64 0)) w = .ok (.int .u8 b.toNat) w := byte_at hb
  have HI := Lib.hid hi
  have HB := Lib.hid hb
  clear hi hb
  by_cases h2 : b.toNat = 48 ∧ 1 < l.length
  · have hb1 : ((b.toNat : Int) == 48) = true := by simp; omega
    have hb2 : (1 : Int) < l.length := by omega
    have HR := Lib.hid (num_zero (K := 6) HB.out h2.1 h2.2)
    clear h2
    go_enter Tryz.func51, Tryz.ntmps51
    go_wp2_with fail
    refine (l1In_any _ _ _ _).mono ?_
    rintro e _ ⟨rfl, rfl⟩
    rw [HI.out]
    go_wp2
    go_ret
    exact ⟨ret_int (by rw [rdV, HR.out]), rfl⟩
  have HN := Lib.hid h2
  by_cases h3 : b.toNat = 48
  · have hb1 : ((b.toNat : Int) == 48) = true := by simp; omega
    have hb2 : ¬ (1 : Int) < l.length := by omega
    clear h2 h3
    go_enter Tryz.func51, Tryz.ntmps51
    go_wp2_with fail
    refine (l1In_any _ _ _ _).mono ?_
    rintro e _ ⟨rfl, rfl⟩
    rw [HI.out]
    go_wp2
    go_loopw [3, 4] (fun n i wr => ∃ k : Nat, k ≤ l.length ∧ n = .int .i64 (dv (l.take k)) ∧ i = .int .i64 k ∧ Hid ((l.take k).all dig = true) ∧ w = wr) (fun _ i _ => l.length - (intOf i).toNat)
    case atStart => exact ⟨0, by omega, rfl, rfl, Lib.hid rfl, rfl⟩
    case round =>
      obtain ⟨k, hk, rfl, rfl, HD, rfl⟩ := hrel
      by_cases hlt : k < l.length
      · obtain ⟨x, hx'⟩ := some_of_lt (L := l) (k := k) hlt
        have hy := byte_at hx'
        have HX := Lib.hid hx'
        clear hx'
        by_cases h5 : 48 ≤ x.toNat ∧ x.toNat ≤ 57
        · have hd := dv_lt k (l.take k) (by simp; omega) HD.out
          have hd2 : dv (l.take k) < 10 ^ 5 := Nat.lt_of_lt_of_le hd (Nat.pow_le_pow_right (by omega) (by omega))
          have HT := Lib.hid (dv_take HX.out)
          have HD2 := Lib.hid (digs_take HX.out HD.out (dig_iff.2 h5))
          have h6 : ¬ (x.toNat : Int) < 48 := by omega
          have h7 : ¬ (57 : Int) < x.toNat := by omega
          have hw1 : IntKind.i64.wrap (10 * (dv (l.take k) : Int)) = 10 * (dv (l.take k) : Int) := IntWalk.i64_in _ (by omega)
          have hw2 : IntKind.u8.wrap ((x.toNat : Int) - 48) = (x.toNat : Int) - 48 := IntWalk.u8_in _ (by omega)
          have hw3 : IntKind.i64.wrap ((x.toNat : Int) - 48) = (x.toNat : Int) - 48 := IntWalk.i64_in _ (by omega)
          have hw4 : IntKind.i64.wrap (10 * (dv (l.take k) : Int) + ((x.toNat : Int) - 48)) = 10 * (dv (l.take k) : Int) + ((x.toNat : Int) - 48) := IntWalk.i64_in _ (by omega)
          clear hd
          go_wp2
          go_roundw
          case rel => exact ⟨k + 1, by omega, by rw [HT.out]; congr 1; omega, by go_num, HD2, trivial⟩
          case measure => simp [intOf]; omega
        · have HR := Lib.hid (num_bad (K := 6) HX.out (dig_no h5))
          by_cases h6 : (x.toNat : Int) < 48
          · clear h5
            go_wp2
            go_ret
            exact ⟨ret_int (by rw [rdV, HR.out]), rfl⟩
          · have h7 : (57 : Int) < x.toNat := by omega
            clear h5
            go_wp2
            go_ret
            exact ⟨ret_int (by rw [rdV, HR.out]), rfl⟩
      · have HR := Lib.hid (num_good (K := 6) HB.out HN.out (by omega) (by omega) (k := k) (by omega) HD.out)
        go_wp2
        go_ret
        exact ⟨ret_int (by rw [rdV, HR.out]), rfl⟩
  · have hb1 : ((b.toNat : Int) == 48) = false := by simp; omega
    clear h2 h3
    go_enter Tryz.func51, Tryz.ntmps51
    go_wp2_with fail
    refine (l1In_any _ _ _ _).mono ?_
    rintro e _ ⟨rfl, rfl⟩
    rw [HI.out]
    go_wp2
    go_loopw [3, 4] (fun n i wr => ∃ k : Nat, k ≤ l.length ∧ n = .int .i64 (dv (l.take k)) ∧ i = .int .i64 k ∧ Hid ((l.take k).all dig = true) ∧ w = wr) (fun _ i _ => l.length - (intOf i).toNat)
    case atStart => exact ⟨0, by omega, rfl, rfl, Lib.hid rfl, rfl⟩
    case round =>
      obtain ⟨k, hk, rfl, rfl, HD, rfl⟩ := hrel
      by_cases hlt : k < l.length
      · obtain ⟨x, hx'⟩ := some_of_lt (L := l) (k := k) hlt
        have hy := byte_at hx'
        have HX := Lib.hid hx'
        clear hx'
        by_cases h5 : 48 ≤ x.toNat ∧ x.toNat ≤ 57
        · have hd := dv_lt k (l.take k) (by simp; omega) HD.out
          have hd2 : dv (l.take k) < 10 ^ 5 := Nat.lt_of_lt_of_le hd (Nat.pow_le_pow_right (by omega) (by omega))
          have HT := Lib.hid (dv_take HX.out)
          have HD2 := Lib.hid (digs_take HX.out HD.out (dig_iff.2 h5))
          have h6 : ¬ (x.toNat : Int) < 48 := by omega
          have h7 : ¬ (57 : Int) < x.toNat := by omega
          have hw1 : IntKind.i64.wrap (10 * (dv (l.take k) : Int)) = 10 * (dv (l.take k) : Int) := IntWalk.i64_in _ (by omega)
          have hw2 : IntKind.u8.wrap ((x.toNat : Int) - 48) = (x.toNat : Int) - 48 := IntWalk.u8_in _ (by omega)
          have hw3 : IntKind.i64.wrap ((x.toNat : Int) - 48) = (x.toNat : Int) - 48 := IntWalk.i64_in _ (by omega)
          have hw4 : IntKind.i64.wrap (10 * (dv (l.take k) : Int) + ((x.toNat : Int) - 48)) = 10 * (dv (l.take k) : Int) + ((x.toNat : Int) - 48) := IntWalk.i64_in _ (by omega)
          clear hd
          go_wp2
          go_roundw
          case rel => exact ⟨k + 1, by omega, by rw [HT.out]; congr 1; omega, by go_num, HD2, trivial⟩
          case measure => simp [intOf]; omega
        · have HR := Lib.hid (num_bad (K := 6) HX.out (dig_no h5))
          by_cases h6 : (x.toNat : Int) < 48
          · clear h5
            go_wp2
            go_ret
            exact ⟨ret_int (by rw [rdV, HR.out]), rfl⟩
          · have h7 : (57 : Int) < x.toNat := by omega
            clear h5
            go_wp2
            go_ret
            exact ⟨ret_int (by rw [rdV, HR.out]), rfl⟩
      · have HR := Lib.hid (num_good (K := 6) HB.out HN.out (by omega) (by omega) (k := k) (by omega) HD.out)
        go_wp2
        go_ret
        exact ⟨ret_int (by rw [rdV, HR.out]), rfl⟩

/-- Strings as cells. -/
def strs (P : List (List UInt8)) : List Value := P.flatMap fun p => [Value.string (bs p)]
theorem strs_len (P : List (List UInt8)) : (strs P).length = P.length := by rw [strs, flat_len _ 1 (fun _ => rfl)]; omega
theorem strs_snoc (P : List (List UInt8)) (p : List UInt8) : strs (P ++ [p]) = strs P ++ [Value.string (bs p)] := by simp [strs]
theorem Mem.str {w : World} {A : Option Addr} {P : List (List UInt8)} (h : Mem w A (strs P)) {k : Nat} {p : List UInt8} (hk : P[k]? = some p) :
    ∃ b off, A = some ⟨b, off, none⟩ ∧ w.cell? ⟨b, off + k, none⟩ = some (.string (bs p)) := by
  obtain ⟨b, off, e, hc⟩ := Mem.elem (sz := 1) (fun _ => rfl) h hk (by omega)
  exact ⟨b, off, e, by simpa using hc 0 _ rfl⟩
theorem info_str : (Tryz.prog.info? 9).map (fun i => (i.zero, i.size, i.bytes)) = some (some (.string ⟨#[]⟩), 1, 16) := by kernel_rfl
/-- A call that hands back strings of its own. -/
def RetStrs (w : World) (P : List (List UInt8)) (e : Ending) (w' : World) : Prop :=
  ∃ A' c', e = .returned (.slice A' P.length c') ∧ w'.ownsRow w.heap.size 9 1 (.slice A' P.length c') P.length (strs P) ∧ Below w.heap.size w w'
theorem RetStrs.mk {w w' : World} {P : List (List UInt8)} {v : Value} {n base : Nat} (ho : w'.ownsRow base 9 1 v n (strs P)) (hn : n = P.length) (hbase : w.heap.size ≤ base) (hb : Below w.heap.size w w') : RetStrs w P (.returned v) w' := by
  subst hn
  obtain ⟨A', c', rfl⟩ := own_form ho
  exact ⟨A', c', rfl, own_base ho hbase, hb⟩
theorem bs_cut {l : List UInt8} {f k : Nat} : (bs l).extract f k = bs ((l.take k).drop f) := by
  apply ByteArray.ext
  rw [ByteArray.data_extract]
  simp [bs, List.drop_take]
/-- A piece of a string. -/
theorem run_piece {l : List UInt8} {f k : Nat} (h1 : f ≤ k) (h2 : k ≤ l.length) (w : World) : Sem.run Tryz.prog (Instr.slice 9 (.string (bs l)) (some (.int .i64 f)) (some (.int .i64 k)) none) w = .ok (.string (bs ((l.take k).drop f))) w := by
  rw [run_slice_string_if _ _ _ _ _ _ _ Tryz.underlying9, if_pos ⟨by omega, by rw [bs_size]; omega⟩, if_pos ⟨by omega, by omega⟩]
  simp only [Int.toNat_natCast]
  rw [bs_cut]
theorem run_rest {l : List UInt8} {f : Nat} (h1 : f ≤ l.length) (w : World) : Sem.run Tryz.prog (Instr.slice 9 (.string (bs l)) (some (.int .i64 f)) none none) w = .ok (.string (bs (l.drop f))) w := by
  rw [run_slice_string_from_if _ _ _ _ _ Tryz.underlying9, if_pos ⟨by omega, by rw [bs_size]; omega⟩]
  simp only [Int.toNat_natCast]
  rw [bs_cut, bs_size, List.take_length]
theorem spl_len (c : UInt8) : ∀ l : List UInt8, (spl c l).length ≤ l.length + 1
  | [] => by simp [spl]
  | x :: l => by
    have := spl_len c l
    rw [spl]
    split
    · simp; omega
    · split
      · simp
      · rename_i e; rw [e] at this; simp at this ⊢; omega

set_option maxHeartbeats 3200000 in
set_option maxRecDepth 100000 in
theorem l1Split_any (l : List UInt8) (c : UInt8) (hl : l.length ≤ 1048576) (w : World) : Calls Tryz.prog 48 #[.string (bs l), .int .u8 c.toNat] w (RetStrs w (spl c l)) := by
  obtain ⟨i0, hi, hz0, hz1, hz2⟩ := info_parts info_str
  have hz := bs_size l
  go_enter Tryz.func48, Tryz.ntmps48
  go_wp2
  go_loopw [5, 6, 7] (fun v f i wr => ∃ (k : Nat) (P : List (List UInt8)) (g : Nat), k ≤ l.length ∧ i = .int .i64 k ∧ f = .int .i64 g ∧ g ≤ k ∧ P.length ≤ k ∧ wr.ownsRow w.heap.size 9 1 v P.length (strs P) ∧ Hid (spl c (l.take k) = P ++ [(l.take k).drop g]) ∧ Below w.heap.size w wr) (fun _ _ i _ => l.length - (intOf i).toNat)
  case atStart => exact ⟨0, [], 0, by omega, rfl, rfl, by omega, by simp, World.ownsRow_nil _ _ _ _, Lib.hid rfl, Below.refl _ _⟩
  case round =>
    obtain ⟨k, P, g, hk, rfl, rfl, hg, hP, hown, HS, hb⟩ := hrel
    by_cases hlt : k < l.length
    · obtain ⟨x, hx⟩ := some_of_lt (L := l) (k := k) hlt
      have hy := byte_at hx
      have HX := Lib.hid (show l.take (k + 1) = l.take k ++ [x] by rw [List.take_add_one, hx]; rfl)
      clear hx
      by_cases hc : x = c
      · subst hc
        have hp := run_piece (l := l) hg hk
        have HS2 := Lib.hid (show spl x (l.take (k + 1)) = (P ++ [(l.take k).drop g]) ++ [(l.take (k + 1)).drop (k + 1)] by
          have e : (l.take (k + 1)).drop (k + 1) = [] := List.drop_of_length_le (by rw [List.length_take]; omega)
          rw [e, HX.out, spl_snoc x x _ _ _ HS.out, if_pos rfl]
          simp)
        have HO := Lib.hid hown
        have HB := Lib.hid hb
        have hsz := hb.size
        clear hown hb
        go_wp2_with (at_builtin; (refine wpList_append_one _ rfl (.tmp 19) (.tmp 24) 62 rfl w.heap.size 9 i0 (.string ⟨#[]⟩) 1 16 Tryz.underlying62 hi hz0 hz1 hz2 rfl (by omega) _ _ _ rfl HO.out _ _ _ rfl rfl rfl (by omega) (by omega) (by omega) ?_; intro v' w2 hown' hb2; have HO2 := Lib.hid hown'; have HB2 := Lib.hid (HB.out.trans hb2); clear hown' hb2))
        go_roundw
        case rel => exact ⟨k + 1, P ++ [(l.take k).drop g], k + 1, by omega, by go_num, by go_num, by omega, by simp; omega, by rw [List.length_append, strs_snoc]; exact HO2.out, HS2, HB2.out⟩
        case measure => simp [intOf]; omega
      · have hc' : ((x.toNat : Int) == c.toNat) = false := by
          have := mt UInt8.toNat_inj.1 hc
          simp
          omega
        have HS2 := Lib.hid (show spl c (l.take (k + 1)) = P ++ [(l.take (k + 1)).drop g] by
          rw [HX.out, spl_snoc c x _ _ _ HS.out, if_neg hc, List.drop_append_of_le_length (by rw [List.length_take]; omega)])
        clear hc
        go_wp2
        go_roundw
        case rel => exact ⟨k + 1, P, g, by omega, by go_num, rfl, by omega, by omega, hown, HS2, hb⟩
        case measure => simp [intOf]; omega
    · have e1 : k = l.length := by omega
      have HF := Lib.hid (show spl c l = P ++ [l.drop g] by have := HS.out; rw [e1, List.take_length] at this; exact this)
      have hp := run_rest (l := l) (f := g) (by omega)
      clear HS e1
      have HO := Lib.hid hown
      have HB := Lib.hid hb
      have hsz := hb.size
      clear hown hb
      go_wp2_with (at_builtin; (refine wpList_append_one _ rfl (.tmp 28) (.tmp 32) 62 rfl w.heap.size 9 i0 (.string ⟨#[]⟩) 1 16 Tryz.underlying62 hi hz0 hz1 hz2 rfl (by omega) _ _ _ rfl HO.out _ _ _ rfl rfl rfl (by omega) (by omega) (by omega) ?_; intro v' w2 hown' hb2; have HO2 := Lib.hid hown'; have HB2 := Lib.hid (HB.out.trans hb2); clear hown' hb2))
      go_wp2
      go_ret
      rw [HF.out]
      exact RetStrs.mk (P := P ++ [l.drop g]) (n := P.length + 1) (by rw [strs_snoc]; exact HO2.out) (by simp) (Nat.le_refl _) HB2.out

def rdP (l : List UInt8) : Int := match ptR 6 l with
  | some v => v
  | none => -1
theorem rdV_neg {l : List UInt8} : rdV l < 0 ↔ num 6 l = none := by
  unfold rdV
  cases num 6 l with
  | none => simp
  | some n => simp
theorem rdV_some {l : List UInt8} {n : Nat} (h : num 6 l = some n) : rdV l = n := by rw [rdV, h]
theorem rdV_none {l : List UInt8} (h : num 6 l = none) : rdV l = -1 := by rw [rdV, h]
theorem num_lt {K : Nat} {l : List UInt8} {n : Nat} (h : num K l = some n) : n < 10 ^ K := by
  obtain ⟨h1, h2⟩ := num_iff.1 h
  have h3 : dv l < 10 ^ l.length := dv_lt _ _ rfl (by rw [← h1]; exact List.all_eq_true.2 (dec_dig n))
  have h4 : dv l = n := by rw [← h1, dv_dec]
  exact Nat.lt_of_lt_of_le (h4 ▸ h3) (Nat.pow_le_pow_right (by omega) h2)
theorem rdV_bd (l : List UInt8) : -1 ≤ rdV l ∧ rdV l < 1000000 := by
  unfold rdV
  cases h : num 6 l with
  | none => simp
  | some n => have := num_lt h; simp; omega
theorem pieces_le {c : UInt8} {l : List UInt8} : ∀ p ∈ spl c l, p.length ≤ l.length := by
  induction l with
  | nil => intro p hp; simp [spl] at hp; simp [hp]
  | cons x l ih =>
    intro p hp
    rw [spl] at hp
    split at hp
    · rcases List.mem_cons.1 hp with rfl | hp
      · simp
      · have := ih p hp; simp; omega
    · split at hp
      · rename_i e; exact absurd e (spl_ne c l)
      · rename_i y t e
        rcases List.mem_cons.1 hp with rfl | hp
        · have := ih y (by rw [e]; simp); simp; omega
        · have := ih p (by rw [e]; simp [hp]); simp; omega

set_option maxHeartbeats 3200000 in
set_option maxRecDepth 100000 in
theorem stRead_any (l : List UInt8) (hl : l.length ≤ 1048576) (w : World) : Calls Tryz.prog 74 #[.string (bs l)] w fun e w' => e = .returned (.int .i64 (rdP l)) ∧ Below w.heap.size w w' := by
  have HPL := Lib.hid (pieces_le (c := 43) (l := l))
  go_enter Tryz.func74, Tryz.ntmps74
  go_wp2_with fail
  refine (l1Split_any l 43 hl w).mono ?_
  rintro e w1 ⟨A, c, rfl, ho, hq⟩
  have HQ := Lib.hid hq
  have hm := Mem.of_own ho
  clear ho hq
  cases hs : spl 43 l with
  | nil => exact absurd hs (spl_ne _ _)
  | cons a P =>
    rw [hs] at hm
    have ha : a.length ≤ 1048576 := Nat.le_trans (HPL.out a (by rw [hs]; simp)) hl
    obtain ⟨b, off, rfl, x0⟩ := hm.str (k := 0) (p := a) rfl
    have HM := Lib.hid hm
    have HS := Lib.hid hs
    simp only [Nat.add_zero] at x0
    clear hm hs
    have C1 := Lib.hid (l1Read_any a ha)
    have hbd := rdV_bd a
    cases P with
    | nil =>
      cases hn : num 6 a with
      | none =>
        have hv := rdV_none hn
        have HR := Lib.hid (show rdP l = -1 by rw [rdP, ptR, HS.out]; simp [hn])
        clear hn hbd
        simp only [List.length_cons, List.length_nil]
        go_wp2_with fail
        refine (C1.out w1).mono ?_
        rintro e _ ⟨rfl, rfl⟩
        rw [hv]
        clear hv
        go_wp2
        go_ret
        exact ⟨ret_int HR.out.symm, HQ.out⟩
      | some n =>
        have hv := rdV_some hn
        have HR := Lib.hid (show rdP l = 8 * (n : Int) by rw [rdP, ptR, HS.out]; simp [hn])
        have hlt := num_lt hn
        clear hn hbd
        have h0 : ¬ (n : Int) < 0 := by omega
        have hw : IntKind.i64.wrap (8 * (n : Int)) = 8 * (n : Int) := IntWalk.i64_in _ (by omega)
        simp only [List.length_cons, List.length_nil]
        go_wp2_with fail
        refine (C1.out w1).mono ?_
        rintro e _ ⟨rfl, rfl⟩
        rw [hv]
        clear hv
        go_wp2
        go_ret
        exact ⟨ret_int HR.out.symm, HQ.out⟩
    | cons a2 P =>
      cases P with
      | nil =>
        cases hn : num 6 a with
        | none =>
          have hv := rdV_none hn
          have HR := Lib.hid (show rdP l = -1 by rw [rdP, ptR, HS.out]; simp [hn])
          clear hn hbd
          simp only [List.length_cons, List.length_nil]
          go_wp2_with fail
          refine (C1.out w1).mono ?_
          rintro e _ ⟨rfl, rfl⟩
          rw [hv]
          clear hv
          go_wp2
          go_ret
          exact ⟨ret_int HR.out.symm, HQ.out⟩
        | some n =>
          have hv := rdV_some hn
          have hlt := num_lt hn
          have h0 : ¬ (n : Int) < 0 := by omega
          have ha2 : a2.length ≤ 1048576 := Nat.le_trans (HPL.out a2 (by rw [HS.out]; simp)) hl
          have C2 := Lib.hid (l1Read_any a2 ha2)
          obtain ⟨b', off', hbe, x1⟩ := HM.out.str (k := 1) (p := a2) rfl
          cases hbe
          cases hk : inR (rdV a2) 1 7
          · have HR := Lib.hid (show rdP l = -1 by
              rw [rdP, ptR, HS.out]
              simp only [hn]
              cases h2 : num 6 a2 with
              | none => rfl
              | some k =>
                simp only
                rw [if_neg]
                rw [rdV_some h2] at hk
                intro hc
                have : inR (k : Int) 1 7 = true := inR_iff.2 ⟨by omega, by omega⟩
                rw [hk] at this
                cases this)
            have HK := Lib.hid hk
            clear hn hbd hk
            simp only [List.length_cons, List.length_nil]
            go_wp2_with fail
            refine (C1.out w1).mono ?_
            rintro e _ ⟨rfl, rfl⟩
            rw [hv]
            clear hv
            go_wp2_with fail
            refine (C2.out w1).mono ?_
            rintro e _ ⟨rfl, rfl⟩
            go_wp2_with fail
            refine (l1In_any _ _ _ _).mono ?_
            rintro e _ ⟨rfl, rfl⟩
            rw [HK.out]
            go_wp2
            go_ret
            exact ⟨ret_int HR.out.symm, HQ.out⟩
          · obtain ⟨k, h2⟩ : ∃ k, num 6 a2 = some k := by
              cases h2 : num 6 a2 with
              | none => rw [rdV_none h2] at hk; exact absurd hk (by decide)
              | some k => exact ⟨k, rfl⟩
            have hk2 := inR_iff.1 hk
            have hv2 := rdV_some h2
            rw [hv2] at hk2 hk
            have HR := Lib.hid (show rdP l = 8 * (n : Int) + k by
              rw [rdP, ptR, HS.out]
              simp only [hn, h2]
              rw [if_pos ⟨by omega, by omega⟩]
              simp)
            have HK := Lib.hid hk
            have hw : IntKind.i64.wrap (8 * (n : Int)) = 8 * (n : Int) := IntWalk.i64_in _ (by omega)
            have hw2 : IntKind.i64.wrap (8 * (n : Int) + k) = 8 * (n : Int) + k := IntWalk.i64_in _ (by omega)
            clear hn hbd hk h2
            simp only [List.length_cons, List.length_nil]
            go_wp2_with fail
            refine (C1.out w1).mono ?_
            rintro e _ ⟨rfl, rfl⟩
            rw [hv]
            clear hv
            go_wp2_with fail
            refine (C2.out w1).mono ?_
            rintro e _ ⟨rfl, rfl⟩
            go_wp2_with fail
            refine (l1In_any _ _ _ _).mono ?_
            rintro e _ ⟨rfl, rfl⟩
            rw [HK.out]
            clear hv2
            go_wp2
            go_ret
            exact ⟨ret_int HR.out.symm, HQ.out⟩
      | cons a3 P =>
        have HR := Lib.hid (show rdP l = -1 by rw [rdP, ptR, HS.out])
        clear hbd
        have hgt : (2 : Int) < ((P.length + 1 + 1 + 1 : Nat) : Int) := by omega
        simp only [List.length_cons]
        go_wp2_with fail
        refine (C1.out w1).mono ?_
        rintro e _ ⟨rfl, rfl⟩
        go_wp2
        go_ret
        exact ⟨ret_int HR.out.symm, HQ.out⟩

theorem keepA2 {w : World} {o : Obj} {p0 p1 : Addr} {v0 v1 : Value} (h : w.cell? p0 = some v0 ∧ w.cell? p1 = some v1) : (w.alloc o).cell? p0 = some v0 ∧ (w.alloc o).cell? p1 = some v1 :=
  ⟨keep1 ((Below.refl _ _).alloc (Nat.le_refl _) o) h.1, keep1 ((Below.refl _ _).alloc (Nat.le_refl _) o) h.2⟩
theorem keepN2 {W w' : World} {p0 p1 : Addr} {v0 v1 : Value} (hq : Below W.heap.size W w') (h : W.cell? p0 = some v0 ∧ W.cell? p1 = some v1) : w'.cell? p0 = some v0 ∧ w'.cell? p1 = some v1 := ⟨keep1 hq h.1, keep1 hq h.2⟩
theorem keepS2 {w : World} {m o o' g : Nat} {v v' a b : Value} (hne : m ≠ g) (h : w.cell? ⟨m, o, none⟩ = some v ∧ w.cell? ⟨m, o', none⟩ = some v') : ((w.setCell ⟨g, 0, none⟩ a).setCell ⟨g, 1, none⟩ b).cell? ⟨m, o, none⟩ = some v ∧ ((w.setCell ⟨g, 0, none⟩ a).setCell ⟨g, 1, none⟩ b).cell? ⟨m, o', none⟩ = some v' := by
  have hb : ((w.setCell ⟨g, 0, none⟩ a).setCell ⟨g, 1, none⟩ b).heap[m]? = w.heap[m]? := (Below.heap_setCell _ _ _ _ hne).trans (Below.heap_setCell _ _ _ _ hne)
  exact ⟨(World.cell?_of_block (a := ⟨m, o, none⟩) hb).trans h.1, (World.cell?_of_block (a := ⟨m, o', none⟩) hb).trans h.2⟩
/-- A box with a spot's zero that a call has met. -/
def Zb (w : World) (b : Nat) : Prop := Blk w b #[.int .i64 0, .int .i64 0] 25
theorem Zb.facts {w : World} {b : Nat} (h : Zb w b) : (w.cell? ⟨b, 0, none⟩ = some (.int .i64 0) ∧ w.cell? ⟨b, 1, none⟩ = some (.int .i64 0)) ∧ (w.frozen? ⟨b, 0, none⟩ = false ∧ w.frozen? ⟨b, 1, none⟩ = false) ∧ b < w.heap.size :=
  ⟨⟨Blk.cell h 0, Blk.cell h 1⟩, ⟨Blk.frozen h 0, Blk.frozen h 1⟩, Blk.lt h⟩
theorem Zb.new {X w' : World} (hq : Below (X.alloc (.cells #[.int .i64 0, .int .i64 0] 25)).heap.size (X.alloc (.cells #[.int .i64 0, .int .i64 0] 25)) w') : Zb w' X.heap.size := (Blk.new X #[.int .i64 0, .int .i64 0] 25).below hq (by simp)
theorem Zb.newd {X w' : World} (hq : Below (X.alloc (.cells #[.int .i64 0, .int .i64 0] 25)).drew.heap.size (X.alloc (.cells #[.int .i64 0, .int .i64 0] 25)).drew w') : Zb w' X.heap.size := ((Blk.new X #[.int .i64 0, .int .i64 0] 25).drew).below hq (by simp)
theorem Zb.keep {W w' : World} {b : Nat} (hq : Below W.heap.size W w') (h : Zb W b) : Zb w' b := Blk.below h hq (Blk.lt h)
theorem Zb.set {w : World} {b : Nat} (h : Zb w b) (u v : Value) : Blk ((w.setCell ⟨b, 0, none⟩ u).setCell ⟨b, 1, none⟩ v) b #[u, v] 25 := Blk.set2 h u v
def ifV (x y : Int) : Sp := if isSp ⟨x, y⟩ then ⟨x, y⟩ else ⟨0, 0⟩
theorem ret_sp {x y u v : Int} {c d : Bool} (h1 : x = u) (h2 : y = v) (h3 : c = d) : Ending.returned (.tuple #[.agg #[.int .i64 x, .int .i64 y], .bool c]) = .returned (.tuple #[.agg #[.int .i64 u, .int .i64 v], .bool d]) := by rw [h1, h2, h3]
set_option maxHeartbeats 1600000 in
set_option maxRecDepth 100000 in
theorem stIf_any (x y : Int) (w : World) : Calls Tryz.prog 75 #[.int .i64 x, .int .i64 y] w fun e w' => e = .returned (.tuple #[.agg #[.int .i64 (ifV x y).x, .int .i64 (ifV x y).y], .bool (isSp ⟨x, y⟩)]) ∧ Below w.heap.size w w' := by
  cases h : isSp ⟨x, y⟩
  all_goals
    have HH := Lib.hid h
    clear h
    go_enter Tryz.func75, Tryz.ntmps75
    go_wp2_with fail
    refine (stGood_any ⟨x, y⟩ _).mono ?_
    rintro e _ ⟨rfl, o, rfl⟩
    rw [HH.out]
    go_wp2
  · exact bodyPost_ret (v := .tuple #[.agg #[.int .i64 0, .int .i64 0], .bool false]) (by simp [results, Tryz.results75, go_sem]) rfl ⟨ret_sp (by simp [ifV, HH.out]) (by simp [ifV, HH.out]) rfl, by (repeat (first | exact Below.refl _ _ | assumption | (refine Below.alloc ?_ (by first | omega | (simp; done) | (simp; omega)) _) | (refine Below.setCell ?_ (by first | omega | (simp; done) | (simp; omega)) _) | (refine Below.drew ?_) | (refine Below.drewN ?_ _) | (refine Below.next (by assumption) ?_ (by first | omega | (simp; done) | (simp; omega)))))⟩
  · exact bodyPost_ret (v := .tuple #[.agg #[.int .i64 x, .int .i64 y], .bool true]) (by simp [results, Tryz.results75, go_sem]) rfl ⟨ret_sp (by simp [ifV, HH.out]) (by simp [ifV, HH.out]) rfl, by (repeat (first | exact Below.refl _ _ | assumption | (refine Below.alloc ?_ (by first | omega | (simp; done) | (simp; omega)) _) | (refine Below.setCell ?_ (by first | omega | (simp; done) | (simp; omega)) _) | (refine Below.drew ?_) | (refine Below.drewN ?_ _) | (refine Below.next (by assumption) ?_ (by first | omega | (simp; done) | (simp; omega)))))⟩

/-- A call that hands back the spot with a text. -/
def RetRd (w : World) (l : List UInt8) (e : Ending) (w' : World) : Prop :=
  ∃ r : Option Sp, (∀ a, r = some a ↔ isSp a = true ∧ spT a = l) ∧ e = .returned (.tuple #[.agg #[.int .i64 (r.getD ⟨0, 0⟩).x, .int .i64 (r.getD ⟨0, 0⟩).y], .bool r.isSome]) ∧ Below w.heap.size w w'
theorem RetRd.no {w w' : World} {l : List UInt8} (h : ∀ a, isSp a = true → spT a ≠ l) (hb : Below w.heap.size w w') : RetRd w l (.returned (.tuple #[.agg #[.int .i64 0, .int .i64 0], .bool false])) w' :=
  ⟨none, fun a => ⟨(fun e => by cases e), fun h1 => absurd h1.2 (h a h1.1)⟩, rfl, hb⟩
theorem RetRd.yes {w w' : World} {l : List UInt8} {a : Sp} (h1 : isSp a = true) (h2 : spT a = l) (hb : Below w.heap.size w w') : RetRd w l (.returned (.tuple #[.agg #[.int .i64 a.x, .int .i64 a.y], .bool true])) w' := by
  exact ⟨some a, fun b => ⟨(fun e => by cases e; exact ⟨h1, h2⟩), fun h3 => by rw [spT_inj h1 h3.1 (h2.trans h3.2.symm)]⟩, rfl, hb⟩

theorem rdP_neg {l : List UInt8} : rdP l < 0 ↔ ptR 6 l = none := by
  unfold rdP
  cases ptR 6 l with
  | none => simp
  | some n => simp
theorem rdP_some {l : List UInt8} {n : Nat} (h : ptR 6 l = some n) : rdP l = n := by rw [rdP, h]
theorem rdP_none {l : List UInt8} (h : ptR 6 l = none) : rdP l = -1 := by rw [rdP, h]
/-- A text of two parts: what is read of it. -/
theorem sp_two {l a b : List UInt8} (hs : spl 44 l = [a, b]) {s : Sp} (h : isSp s = true) : spT s = l ↔ ptR 6 a = some s.x.toNat ∧ ptR 6 b = some s.y.toNat := by
  have hl : l = a ++ 44 :: b := by rw [← jn_spl 44 l, hs]; rfl
  exact sp_read (by omega) hl (spl_free 44 l a (by rw [hs]; simp)) h
set_option maxHeartbeats 3200000 in
set_option maxRecDepth 100000 in
theorem stParse_any (l : List UInt8) (hl : l.length ≤ 1048576) (w : World) : Calls Tryz.prog 50 #[.string (bs l)] w (RetRd w l) := by
  have HPL := Lib.hid (pieces_le (c := 44) (l := l))
  have hz := bs_size l
  go_enter Tryz.func50, Tryz.ntmps50
  go_wp2_with fail
  have hb0 := Blk.new w #[.int .i64 0, .int .i64 0] 25
  have hq0 : Below w.heap.size w (w.alloc (.cells #[.int .i64 0, .int .i64 0] 25)) := (Below.refl _ _).alloc (Nat.le_refl _) _
  have HB0 := Lib.hid hb0
  have HQ0 := Lib.hid hq0
  clear hb0 hq0
  generalize w.alloc (.cells #[.int .i64 0, .int .i64 0] 25) = w0 at *
  generalize hgs : w.heap.size = g at HB0 ⊢
  have HG := Lib.hid (Nat.le_of_eq hgs)
  clear hgs
  refine (l1Split_any l 44 hl w0).mono ?_
  rintro e w1 ⟨A, c, rfl, ho, hq⟩
  have HQ := Lib.hid (Below.next hq HQ0.out HQ0.out.size)
  have HB1 := Lib.hid (HB0.out.below hq HB0.out.lt)
  have HM := Lib.hid (Mem.of_own ho)
  clear ho hq HB0 HQ0
  by_cases h2 : (spl 44 l).length = 2
  · obtain ⟨a, b, hs⟩ : ∃ a b, spl 44 l = [a, b] := by
      match h : spl 44 l, h2 with
      | [a, b], _ => exact ⟨a, b, rfl⟩
    have HS := Lib.hid hs
    rw [hs] at HM
    have ha : a.length ≤ 1048576 := Nat.le_trans (HPL.out a (by rw [hs]; simp)) hl
    have hb : b.length ≤ 1048576 := Nat.le_trans (HPL.out b (by rw [hs]; simp)) hl
    obtain ⟨m, off, rfl, x0⟩ := HM.out.str (k := 0) (p := a) rfl
    obtain ⟨m', off', hbe, x1⟩ := HM.out.str (k := 1) (p := b) rfl
    cases hbe
    simp only [Nat.add_zero] at x0
    simp only [hs, List.length_cons, List.length_nil]
    clear hs h2
    have C1 := Lib.hid (stRead_any a ha)
    have C2 := Lib.hid (stRead_any b hb)
    have y0 := HB1.out.cell 0
    have y1 := HB1.out.cell 1
    have f0 := HB1.out.frozen 0
    have f1 := HB1.out.frozen 1
    simp at y0 y1
    cases hx : ptR 6 a with
    | none =>
      have hv := rdP_none hx
      have HN := Lib.hid (show ∀ s, isSp s = true → spT s ≠ l from fun s h e => by
        have := ((sp_two HS.out h).1 e).1
        rw [hx] at this
        cases this)
      clear hx
      go_wp2_with fail
      refine (C1.out w1).mono ?_
      rintro e w2 ⟨he, hq⟩
      rw [hv] at he
      subst he
      have q0 := keep1 hq y0
      have q1 := keep1 hq y1
      have k0 : w2.frozen? ⟨g, 0, none⟩ = false := (hq.frozen HB1.out.lt).trans f0
      have k1 : w2.frozen? ⟨g, 1, none⟩ = false := (hq.frozen HB1.out.lt).trans f1
      have HQ2 := Lib.hid (Below.next hq HQ.out HQ.out.size)
      clear y0 y1 f0 f1 x0 x1 hv hq
      go_wp2
      exact bodyPost_ret (v := .tuple #[.agg #[.int .i64 0, .int .i64 0], .bool false]) (by simp [results, Tryz.results50, go_sem, q0, q1]) rfl (RetRd.no HN.out ((HQ2.out.setCell HG.out _).setCell HG.out _))
    | some x =>
      have hv := rdP_some hx
      have hx0 : ¬ (x : Int) < 0 := by omega
      cases hy : ptR 6 b with
      | none =>
        have hu := rdP_none hy
        have HN := Lib.hid (show ∀ s, isSp s = true → spT s ≠ l from fun s h e => by
          have := ((sp_two HS.out h).1 e).2
          rw [hy] at this
          cases this)
        clear hx hy
        go_wp2_with fail
        refine (C1.out w1).mono ?_
        rintro e w2 ⟨he, hq⟩
        rw [hv] at he
        subst he
        have HB2 := Lib.hid (HB1.out.below hq HB1.out.lt)
        have HQ2 := Lib.hid (Below.next hq HQ.out HQ.out.size)
        have z0 := keep1 hq x0
        have z1 := keep1 hq x1
        clear y0 y1 f0 f1 x0 x1 hv hq HQ HB1
        go_wp2_with fail
        refine (C2.out w2).mono ?_
        rintro e w3 ⟨he, hq⟩
        rw [hu] at he
        subst he
        have HB3 := Lib.hid (HB2.out.below hq HB2.out.lt)
        have HQ3 := Lib.hid (Below.next hq HQ2.out HQ2.out.size)
        clear z0 z1 hu hq HQ2 HB2
        have q0 := HB3.out.cell 0
        have q1 := HB3.out.cell 1
        have k0 := HB3.out.frozen 0
        have k1 := HB3.out.frozen 1
        simp at q0 q1
        go_wp2
        exact bodyPost_ret (v := .tuple #[.agg #[.int .i64 0, .int .i64 0], .bool false]) (by simp [results, Tryz.results50, go_sem, q0, q1]) rfl (RetRd.no HN.out ((HQ3.out.setCell HG.out _).setCell HG.out _))
      | some y =>
        have hu := rdP_some hy
        have hy0 : ¬ (y : Int) < 0 := by omega
        have HX := Lib.hid (And.intro hx hy)
        clear hx hy
        go_wp2_with fail
        refine (C1.out w1).mono ?_
        rintro e w2 ⟨he, hq⟩
        rw [hv] at he
        subst he
        have HB2 := Lib.hid (HB1.out.below hq HB1.out.lt)
        have HQ2 := Lib.hid (Below.next hq HQ.out HQ.out.size)
        have z0 := keep1 hq x0
        have z1 := keep1 hq x1
        clear y0 y1 f0 f1 x0 x1 hq HQ HB1
        go_wp2_with fail
        refine (C2.out w2).mono ?_
        rintro e w3 ⟨he, hq⟩
        rw [hu] at he
        subst he
        have HB3 := Lib.hid (HB2.out.below hq HB2.out.lt)
        have HQ3 := Lib.hid (Below.next hq HQ2.out HQ2.out.size)
        have x0 := keep1 hq z0
        have x1 := keep1 hq z1
        clear z0 z1 hq HQ2 HB2
        go_wp2_with fail
        have C3 := Lib.hid (stIf_any x y)
        have hsz := HB3.out.lt
        have hm3 : m < w3.heap.size := World.block_lt_of_cell? _ _ x0
        have hS3 : w3.cell? ⟨m, off, none⟩ = some (.string (bs a)) ∧ w3.cell? ⟨m, off + 1, none⟩ = some (.string (bs b)) := ⟨x0, x1⟩
        clear x0 x1
        go_cut [5, 6] from 27 to 38 (fun v5 v6 wx => ∃ gq : Nat, v5 = .pointer (some ⟨gq, 0, none⟩) ∧ v6 = .bool (isSp ⟨x, y⟩) ∧ g < gq ∧ Blk wx gq #[.int .i64 (ifV x y).x, .int .i64 (ifV x y).y] 25 ∧ Blk wx g #[.int .i64 0, .int .i64 0] 25 ∧ Below w.heap.size w wx)
        case rest =>
          obtain ⟨gq, rfl, rfl, hgq, hB, hG, hQ⟩ := hcut
          have HBq := Lib.hid hB
          have HBg := Lib.hid hG
          have HQc := Lib.hid hQ
          have hgc := hB.lt
          clear hS3 C1 C2 C3 hv hu HB3 HQ3 hsz hB hG hQ hm3 HM
          cases hok : isSp ⟨(x : Int), (y : Int)⟩
          · have HN := Lib.hid (show ∀ s, isSp s = true → spT s ≠ l from fun s h e => by
              have h1 := (sp_two HS.out h).1 e
              have h2 := spT_nat h
              have e1 := Option.some.inj (HX.out.1.symm.trans h1.1)
              have e2 := Option.some.inj (HX.out.2.symm.trans h1.2)
              have e3 : s = ⟨(x : Int), (y : Int)⟩ := by
                cases s
                simp only [Sp.mk.injEq] at *
                omega
              rw [← e3, h] at hok
              cases hok)
            have q0 := HBg.out.cell 0
            have q1 := HBg.out.cell 1
            have k0 := HBg.out.frozen 0
            have k1 := HBg.out.frozen 1
            simp at q0 q1
            clear hok
            go_wp2
            exact bodyPost_ret (v := .tuple #[.agg #[.int .i64 0, .int .i64 0], .bool false]) (by simp [results, Tryz.results50, go_sem, q0, q1]) rfl (RetRd.no HN.out ((HQc.out.setCell HG.out _).setCell HG.out _))
          · have hT : spT ⟨(x : Int), (y : Int)⟩ = l := (sp_two HS.out hok).2 ⟨by rw [HX.out.1]; simp, by rw [HX.out.2]; simp⟩
            have hV : ifV x y = ⟨(x : Int), (y : Int)⟩ := by simp [ifV, hok]
            have HY := Lib.hid (And.intro hok hT)
            have C4 := Lib.hid (stText_any ⟨(x : Int), (y : Int)⟩ hok)
            rw [hV] at HBq
            rw [hT] at C4
            have q0 := HBq.out.cell 0
            have q1 := HBq.out.cell 1
            simp at q0 q1
            clear hok hT hV
            go_wp2_with fail
            refine (C4.out wc).mono ?_
            rintro e w6 ⟨rfl, hq⟩
            have HBh := Lib.hid (HBg.out.below hq HBg.out.lt)
            have HBr := Lib.hid (HBq.out.below hq HBq.out.lt)
            have HQd := Lib.hid (Below.next hq HQc.out HQc.out.size)
            have r0 := HBr.out.cell 0
            have r1 := HBr.out.cell 1
            have u0 := HBh.out.cell 0
            have u1 := HBh.out.cell 1
            have k0 := HBh.out.frozen 0
            have k1 := HBh.out.frozen 1
            simp at r0 r1 u0 u1
            clear q0 q1 hq
            go_wp2
            exact bodyPost_ret (v := .tuple #[.agg #[.int .i64 x, .int .i64 y], .bool true]) (by simp [results, Tryz.results50, go_sem, u0, u1]) rfl (RetRd.yes HY.out.1 HY.out.2 ((HQd.out.setCell HG.out _).setCell HG.out _))
        case first =>
          go_region_held3 (fun wx => wx.cell? ⟨m, off, none⟩ = some (.string (bs a)) ∧ wx.cell? ⟨m, off + 1, none⟩ = some (.string (bs b))) (first | assumption | exact keepA2 (by assumption) | exact keepA2 hS3 | exact keepS2 (by omega) (by assumption) | exact keepS2 (by omega) (keepA2 (by assumption)))
            (first
            | (go_at_call 75; (first | (with_reducible refine (C3.out (w5.alloc (.cells #[.int .i64 0, .int .i64 0] 25))).mono ?_) | fail); rintro e w6 ⟨rfl, hq6⟩; have hzw6 := hq6.size; (try simp at hzw6); have hSw6 := keepN2 hq6 (by assumption); (first | (have ZZ6 := Zb.new hq6) | fail); obtain ⟨⟨z06, z16⟩, ⟨k06, k16⟩, g6⟩ := Zb.facts ZZ6)
            | (go_at_call 75; (first | (with_reducible refine (C3.out w5).mono ?_) | fail); rintro e w6 ⟨rfl, hq6⟩; have hzw6 := hq6.size; (try simp at hzw6); have hSw6 := keepN2 hq6 (by assumption); (first | (have ZZ6 := Zb.keep hq6 ZZ5) | fail); obtain ⟨⟨z06, z16⟩, ⟨k06, k16⟩, g6⟩ := Zb.facts ZZ6)
            | (go_at_call 75; (first | (with_reducible refine (C3.out w5).mono ?_) | fail); rintro e w6 ⟨rfl, hq6⟩; have hzw6 := hq6.size; (try simp at hzw6); have hSw6 := keepN2 hq6 (by assumption))
            | (go_at_call 74; (first | (with_reducible refine (C2.out (w4.alloc (.cells #[.int .i64 0, .int .i64 0] 25))).mono ?_) | fail); rintro e w5 ⟨he, hq5⟩; rw [hu] at he; subst he; have hzw5 := hq5.size; (try simp at hzw5); have hSw5 := keepN2 hq5 (by assumption); (first | (have ZZ5 := Zb.new hq5) | fail); obtain ⟨⟨z05, z15⟩, ⟨k05, k15⟩, g5⟩ := Zb.facts ZZ5)
            | (go_at_call 74; (first | (with_reducible refine (C2.out w4).mono ?_) | fail); rintro e w5 ⟨he, hq5⟩; rw [hu] at he; subst he; have hzw5 := hq5.size; (try simp at hzw5); have hSw5 := keepN2 hq5 (by assumption); (first | (have ZZ5 := Zb.keep hq5 ZZ4) | fail); obtain ⟨⟨z05, z15⟩, ⟨k05, k15⟩, g5⟩ := Zb.facts ZZ5)
            | (go_at_call 74; (first | (with_reducible refine (C2.out w4).mono ?_) | fail); rintro e w5 ⟨he, hq5⟩; rw [hu] at he; subst he; have hzw5 := hq5.size; (try simp at hzw5); have hSw5 := keepN2 hq5 (by assumption))
            | (go_at_call 74; (first | (with_reducible refine (C1.out (w3.alloc (.cells #[.int .i64 0, .int .i64 0] 25)).drew).mono ?_) | fail); rintro e w4 ⟨he, hq4⟩; rw [hv] at he; subst he; have hzw4 := hq4.size; (try simp at hzw4); have hSw4 := keepN2 hq4 (by assumption); (first | (have ZZ4 := Zb.newd hq4) | fail); obtain ⟨⟨z04, z14⟩, ⟨k04, k14⟩, g4⟩ := Zb.facts ZZ4)
            | (go_at_call 74; (first | (with_reducible refine (C1.out w3.drew).mono ?_) | fail); rintro e w4 ⟨he, hq4⟩; rw [hv] at he; subst he; have hzw4 := hq4.size; (try simp at hzw4); have hSw4 := keepN2 hq4 (by assumption)))
          all_goals
            go_wp2_with fail
            go_meet
            refine ⟨_, rfl, rfl, ?_, ?_, ?_, ?_⟩
            · omega
            · first
              | exact Blk.new _ _ _
              | exact Zb.set ZZ6 _ _
            · exact HB3.out.below (by (repeat (first | exact Below.refl _ _ | assumption | (refine Below.alloc ?_ (by first | omega | (simp; done) | (simp; omega)) _) | (refine Below.setCell ?_ (by first | omega | (simp; done) | (simp; omega)) _) | (refine Below.drew ?_) | (refine Below.drewN ?_ _) | (refine Below.next (by assumption) ?_ (by first | omega | (simp; done) | (simp; omega)))))) hsz
            · exact Below.next (W := w3) (by (repeat (first | exact Below.refl _ _ | assumption | (refine Below.alloc ?_ (by first | omega | (simp; done) | (simp; omega)) _) | (refine Below.setCell ?_ (by first | omega | (simp; done) | (simp; omega)) _) | (refine Below.drew ?_) | (refine Below.drewN ?_ _) | (refine Below.next (by assumption) ?_ (by first | omega | (simp; done) | (simp; omega)))))) HQ3.out HQ3.out.size
  · have HN := Lib.hid (show ∀ s, isSp s = true → spT s ≠ l from fun s h e => h2 (by rw [← e, spT_spl h]; rfl))
    have hb2 : ¬ ((spl 44 l).length : Int) = 2 := by omega
    have q0 := HB1.out.cell 0
    have q1 := HB1.out.cell 1
    have k0 := HB1.out.frozen 0
    have k1 := HB1.out.frozen 1
    simp at q0 q1
    clear h2
    generalize (spl 44 l).length = n at *
    go_wp2
    exact bodyPost_ret (v := .tuple #[.agg #[.int .i64 0, .int .i64 0], .bool false]) (by simp [results, Tryz.results50, go_sem, q0, q1]) rfl (RetRd.no HN.out ((HQ.out.setCell HG.out _).setCell HG.out _))
end Go.Proofs.YtdmgffcabjpihaaGreatDoor
