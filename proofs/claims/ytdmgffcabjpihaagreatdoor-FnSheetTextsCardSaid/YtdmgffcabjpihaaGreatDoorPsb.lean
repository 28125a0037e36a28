/-
  What the program reads: numbers, spots.
-/
import Derived.Test.YtdmgffcabjpihaaGreatDoorPsa
import Derived.Test.YtdmgffcabjpihaaGreatDoorLbc
import Derived.Lib.SplitLaws
import Derived.Lib.IndexMore
namespace Go.Proofs.YtdmgffcabjpihaaGreatDoor
open Go.RowKit
open Go.Sort (grow)
open Go.Lib (decDigits)

/-- Where a byte stands first. -/
theorem idx_split (c : UInt8) : ∀ l : List UInt8, (c ∉ l ∧ Lib.index l [c] = -1) ∨ ∃ p r, l = p ++ c :: r ∧ c ∉ p ∧ Lib.index l [c] = (p.length : Int)
  | [] => .inl ⟨by simp, by simp [Lib.index]⟩
  | b :: l => by
    by_cases h : c = b
    · subst h
      exact .inr ⟨[], l, rfl, (by simp), (by simp [Lib.index, List.isPrefixOf])⟩
    · have hp : ([c] : List UInt8).isPrefixOf (b :: l) = false := by simp [List.isPrefixOf, h]
      rcases idx_split c l with ⟨h1, h2⟩ | ⟨p, r, h1, h2, h3⟩
      · exact .inl ⟨by simp [h, h1], by rw [Lib.index, hp, h2]; try rfl⟩
      · refine .inr ⟨b :: p, r, by rw [h1]; rfl, by simp [h, h2], ?_⟩
        rw [Lib.index, hp, h3]
        have : ((p.length : Int) == -1) = false := beq_eq_false_iff_ne.2 (by omega)
        simp [this]
theorem cut_no {c : UInt8} {l : List UInt8} (h : c ∉ l) : Lib.cut l [c] = (l, [], false) := by
  rcases idx_split c l with ⟨h1, h2⟩ | ⟨p, r, h1, -, -⟩
  · rw [Lib.cut, h2]; rfl
  · exact absurd (by rw [h1]; simp) h
theorem cut_yes {c : UInt8} {l : List UInt8} (h : c ∈ l) : ∃ p r, l = p ++ c :: r ∧ c ∉ p ∧ Lib.cut l [c] = (p, r, true) := by
  rcases idx_split c l with ⟨h1, h2⟩ | ⟨p, r, h1, h2, h3⟩
  · exact absurd h h1
  · refine ⟨p, r, h1, h2, ?_⟩
    rw [Lib.cut, h3, if_pos (by omega)]
    subst h1
    simp
theorem splitB_spl (c : UInt8) : ∀ (k : Nat) (l : List UInt8), Lib.countB (bs l) (bs [c]) = k → Lib.splitB (bs [c]) 0 k (bs l) = (spl c l).map bs := by
  intro k
  induction k with
  | zero =>
    intro l h
    rcases idx_split c l with ⟨h1, h2⟩ | ⟨p, r, h1, h2, h3⟩
    · rw [spl_one c l h1]; rfl
    · rw [Lib.countB_hit (bs l) (bs [c]) p.length (by rw [bs_size]; simp) h3] at h
      omega
  | succ k ih =>
    intro l h
    rcases idx_split c l with ⟨h1, h2⟩ | ⟨p, r, h1, h2, h3⟩
    · rw [Lib.countB_miss (bs l) (bs [c]) h2] at h
      omega
    · have e2 : (bs l).extract (p.length + (bs [c]).size) (bs l).size = bs r := by
        rw [bs_cut, bs_size, bs_size, List.take_length, h1]
        simp
      have e1 : (bs l).extract 0 (p.length + 0) = bs p := by
        rw [bs_cut, h1]
        simp
      rw [Lib.countB_hit (bs l) (bs [c]) p.length (by rw [bs_size]; simp) h3, e2] at h
      rw [Lib.splitB_hit _ _ _ _ p.length h3, e1, e2, ih r (by omega), h1, spl_cons c p r h2]
      rfl
/-- What the library's table of lengths holds. -/
def Mxl (w : World) (m : Int) : Prop := w.cell? ⟨0, 0, none⟩ = some (.int .i64 m)
theorem Mxl.below {w w' : World} {m : Int} (h : Mxl w m) (hq : Below w.heap.size w w') : Mxl w' m := keep1 hq h
theorem strs_map : ∀ P : List (List UInt8), P.map (Value.string ∘ bs) = strs P
  | [] => rfl
  | p :: P => by rw [List.map_cons, strs_map P]; rfl
theorem split_any (l : List UInt8) (c : UInt8) (hl : l.length ≤ 1048576) (m : Int) (w : World) (hm : Mxl w m) : Calls Tryz.prog 39 #[.string (bs l), .string (bs [c])] w (RetStrs w (spl c l)) := by
  refine (strings_Split (bs l) (bs [c]) m w (by rw [bs_size]; omega) hm (by rw [bs_size]; simp)).mono ?_
  rintro e w' ⟨rfl, rfl⟩
  have hs := splitB_spl c _ l rfl
  have hn : (spl c l).length = Lib.countB (bs l) (bs [c]) + 1 := by
    have := congrArg List.length hs
    rw [Lib.splitB_all (bs [c]) (by rw [bs_size]; simp) 0 _ _ rfl, List.length_map] at this
    exact this.symm
  have e1 : (List.map Value.string (Lib.splitB (bs [c]) 0 (Lib.countB (bs l) (bs [c])) (bs l))) = strs (spl c l) := by
    rw [hs, List.map_map]
    exact strs_map _
  rw [e1, ← hn]
  refine ⟨some ⟨w.heap.size, 0, none⟩, (spl c l).length, rfl, ⟨by rw [strs_len]; omega, .inr ⟨w.heap.size, _, _, rfl, Nat.le_refl _, heap_alloc_new w _, Nat.le_refl _, ?_, ?_, ?_⟩⟩, (Below.refl _ _).alloc (Nat.le_refl _) _⟩
  · have := spl_len c l; unfold maxLen; omega
  · simp [strs_len]
  · simp [List.take_of_length_le, strs_len]
theorem cutc_any (l : List UInt8) (c : UInt8) (hl : l.length ≤ 1048576) (m : Int) (w : World) (hm : Mxl w m) : Calls Tryz.prog 42 #[.string (bs l), .string (bs [c])] w fun e w' =>
    e = .returned (.tuple #[.string (bs (Lib.cut l [c]).1), .string (bs (Lib.cut l [c]).2.1), .bool (Lib.cut l [c]).2.2]) ∧ Below w.heap.size w w' := by
  refine (strings_Cut (bs l) (bs [c]) m w (by rw [bs_size]; omega) hm).mono ?_
  rintro e w' ⟨rfl, n, rfl⟩
  exact ⟨by simp [bs], Below.drewN (Below.refl _ _) n⟩
def ntV (l : List UInt8) : Int := match num 9 l with
  | some n => n
  | none => 0
theorem bs_some {l : List UInt8} (h : 0 < l.length) : ¬ (bs l).toList = [] := by
  rw [bs, ByteArray.toList_mk]
  intro e
  rw [e] at h
  cases h
theorem ret_nb {a b : Int} {c d : Bool} (h : a = b) (h2 : c = d) : Ending.returned (.tuple #[.int .i64 a, .bool c]) = .returned (.tuple #[.int .i64 b, .bool d]) := by rw [h, h2]

set_option maxHeartbeats 1600000 in
set_option maxRecDepth 100000 in
theorem natural_any (l : List UInt8) (hl : l.length ≤ 1048576) (w : World) : Calls Tryz.prog 40 #[.string (bs l)] w fun e w' => e = .returned (.tuple #[.int .i64 (ntV l), .bool (num 9 l).isSome]) ∧ w = w' := by
  have hz := bs_size l
  by_cases h1 : l.length = 0 ∨ 9 < l.length
  · have HR := Lib.hid (num_short (K := 9) h1)
    by_cases h0 : l.length = 0
    · have hne : (bs l).toList = [] := by
        rw [List.eq_nil_of_length_eq_zero h0]
        exact ByteArray.toList_mk []
      clear h1 h0
      go_enter Tryz.func40, Tryz.ntmps40
      go_wp2
      go_ret2
      exact ⟨ret_nb (by rw [ntV, HR.out]) (by rw [HR.out]; rfl), rfl⟩
    · have hne := bs_some (l := l) (by omega)
      have hne2 : (bs l).toList.isEmpty = false := by simpa using hne
      have h9 : (9 : Int) < l.length := by omega
      clear h1 h0
      go_enter Tryz.func40, Tryz.ntmps40
      go_wp2
      go_ret2
      exact ⟨ret_nb (by rw [ntV, HR.out]) (by rw [HR.out]; rfl), rfl⟩
  obtain ⟨b, hb⟩ := some_of_lt (L := l) (k := 0) (by omega)
  have hx : ∀ w, Sem.run Tryz.prog (Instr.index 9 (.string (bs l)) (.int .i64 0)) w = .ok (.int .u8 b.toNat) w := byte_at hb
  have HB := Lib.hid hb
  have hne := bs_some (l := l) (by omega)
  have hne2 : (bs l).toList.isEmpty = false := by simpa using hne
  have hl9 : ¬ (9 : Int) < l.length := by omega
  clear hb
  by_cases h2 : b.toNat = 48 ∧ 1 < l.length
  · have hb1 : ((b.toNat : Int) == 48) = true := by simp; omega
    have hb2 : (1 : Int) < l.length := by omega
    have HR := Lib.hid (num_zero (K := 9) HB.out h2.1 h2.2)
    clear h2
    go_enter Tryz.func40, Tryz.ntmps40
    go_wp2
    go_ret2
    exact ⟨ret_nb (by rw [ntV, HR.out]) (by rw [HR.out]; rfl), rfl⟩
  have HN := Lib.hid h2
  by_cases h3 : b.toNat = 48
  · have hb1 : ((b.toNat : Int) == 48) = true := by simp; omega
    have hb2 : ¬ (1 : Int) < l.length := by omega
    clear h2 h3
    go_enter Tryz.func40, Tryz.ntmps40
    go_wp2
    go_loopw [4, 5] (fun n i wr => ∃ k : Nat, k ≤ l.length ∧ n = .int .i64 (dv (l.take k)) ∧ i = .int .i64 k ∧ Hid ((l.take k).all dig = true) ∧ w = wr) (fun _ i _ => l.length - (intOf i).toNat)
    case atStart => exact ⟨0, by omega, rfl, rfl, Lib.hid rfl, rfl⟩
    case round =>
      obtain ⟨k, hk, rfl, rfl, HD, rfl⟩ := hrel
      by_cases hlt : k < l.length
      · obtain ⟨x, hx'⟩ := some_of_lt (L := l) (k := k) hlt
        have hy := byte_at hx'
        have HX := Lib.hid hx'
        clear hx'
        by_cases h5 : 48 ≤ x.toNat ∧ x.toNat ≤ 57
        · have hd := dv_lt k (l.take k) (by simp; omega) HD.out
          have hd2 : dv (l.take k) < 10 ^ 8 := Nat.lt_of_lt_of_le hd (Nat.pow_le_pow_right (by omega) (by omega))
          have HT := Lib.hid (dv_take HX.out)
          have HD2 := Lib.hid (digs_take HX.out HD.out (dig_iff.2 h5))
          have h6 : ¬ (x.toNat : Int) < 48 := by omega
          have h7 : ¬ (57 : Int) < x.toNat := by omega
          have hw1 : IntKind.i64.wrap (10 * (dv (l.take k) : Int)) = 10 * (dv (l.take k) : Int) := IntWalk.i64_in _ (by omega)
          have hw2 : IntKind.u8.wrap ((x.toNat : Int) - 48) = (x.toNat : Int) - 48 := IntWalk.u8_in _ (by omega)
          have hw3 : IntKind.i64.wrap ((x.toNat : Int) - 48) = (x.toNat : Int) - 48 := IntWalk.i64_in _ (by omega)
          have hw4 : IntKind.i64.wrap (10 * (dv (l.take k) : Int) + ((x.toNat : Int) - 48)) = 10 * (dv (l.take k) : Int) + ((x.toNat : Int) - 48) := IntWalk.i64_in _ (by omega)
          clear hd
          go_wp2
          go_roundw
          case rel => exact ⟨k + 1, by omega, by rw [HT.out]; congr 1; omega, by go_num, HD2, trivial⟩
          case measure => simp [intOf]; omega
        · have HR := Lib.hid (num_bad (K := 9) HX.out (dig_no h5))
          by_cases h6 : (x.toNat : Int) < 48
          · clear h5
            go_wp2
            go_ret2
            exact ⟨ret_nb (by rw [ntV, HR.out]) (by rw [HR.out]; rfl), rfl⟩
          · have h7 : (57 : Int) < x.toNat := by omega
            clear h5
            go_wp2
            go_ret2
            exact ⟨ret_nb (by rw [ntV, HR.out]) (by rw [HR.out]; rfl), rfl⟩
      · have HR := Lib.hid (num_good (K := 9) HB.out HN.out (by omega) (by omega) (k := k) (by omega) HD.out)
        go_wp2
        go_ret2
        exact ⟨ret_nb (by rw [ntV, HR.out]) (by rw [HR.out]; rfl), rfl⟩
  · have hb1 : ((b.toNat : Int) == 48) = false := by simp; omega
    clear h2 h3
    by_cases hb2 : (1 : Int) < l.length
    all_goals
      go_enter Tryz.func40, Tryz.ntmps40
      go_wp2
      go_loopw [4, 5] (fun n i wr => ∃ k : Nat, k ≤ l.length ∧ n = .int .i64 (dv (l.take k)) ∧ i = .int .i64 k ∧ Hid ((l.take k).all dig = true) ∧ w = wr) (fun _ i _ => l.length - (intOf i).toNat)
      case atStart => exact ⟨0, by omega, rfl, rfl, Lib.hid rfl, rfl⟩
      case round =>
        obtain ⟨k, hk, rfl, rfl, HD, rfl⟩ := hrel
        by_cases hlt : k < l.length
        · obtain ⟨x, hx'⟩ := some_of_lt (L := l) (k := k) hlt
          have hy := byte_at hx'
          have HX := Lib.hid hx'
          clear hx'
          by_cases h5 : 48 ≤ x.toNat ∧ x.toNat ≤ 57
          · have hd := dv_lt k (l.take k) (by simp; omega) HD.out
            have hd2 : dv (l.take k) < 10 ^ 8 := Nat.lt_of_lt_of_le hd (Nat.pow_le_pow_right (by omega) (by omega))
            have HT := Lib.hid (dv_take HX.out)
            have HD2 := Lib.hid (digs_take HX.out HD.out (dig_iff.2 h5))
            have h6 : ¬ (x.toNat : Int) < 48 := by omega
            have h7 : ¬ (57 : Int) < x.toNat := by omega
            have hw1 : IntKind.i64.wrap (10 * (dv (l.take k) : Int)) = 10 * (dv (l.take k) : Int) := IntWalk.i64_in _ (by omega)
            have hw2 : IntKind.u8.wrap ((x.toNat : Int) - 48) = (x.toNat : Int) - 48 := IntWalk.u8_in _ (by omega)
            have hw3 : IntKind.i64.wrap ((x.toNat : Int) - 48) = (x.toNat : Int) - 48 := IntWalk.i64_in _ (by omega)
            have hw4 : IntKind.i64.wrap (10 * (dv (l.take k) : Int) + ((x.toNat : Int) - 48)) = 10 * (dv (l.take k) : Int) + ((x.toNat : Int) - 48) := IntWalk.i64_in _ (by omega)
            clear hd
            go_wp2
            go_roundw
            case rel => exact ⟨k + 1, by omega, by rw [HT.out]; congr 1; omega, by go_num, HD2, trivial⟩
            case measure => simp [intOf]; omega
          · have HR := Lib.hid (num_bad (K := 9) HX.out (dig_no h5))
            by_cases h6 : (x.toNat : Int) < 48
            · clear h5
              go_wp2
              go_ret2
              exact ⟨ret_nb (by rw [ntV, HR.out]) (by rw [HR.out]; rfl), rfl⟩
            · have h7 : (57 : Int) < x.toNat := by omega
              clear h5
              go_wp2
              go_ret2
              exact ⟨ret_nb (by rw [ntV, HR.out]) (by rw [HR.out]; rfl), rfl⟩
        · have HR := Lib.hid (num_good (K := 9) HB.out HN.out (by omega) (by omega) (k := k) (by omega) HD.out)
          go_wp2
          go_ret2
          exact ⟨ret_nb (by rw [ntV, HR.out]) (by rw [HR.out]; rfl), rfl⟩

theorem ntV_some {l : List UInt8} {n : Nat} (h : num 9 l = some n) : ntV l = n := by rw [ntV, h]
theorem ntV_none {l : List UInt8} (h : num 9 l = none) : ntV l = 0 := by rw [ntV, h]
theorem num_plus {K : Nat} {l : List UInt8} {c : UInt8} (hc : dig c = false) (h : c ∈ l) : num K l = none := by
  cases e : num K l with
  | none => rfl
  | some n => exact absurd h (by rw [← (num_iff.1 e).1]; exact dec_free hc n)
def ppV (l : List UInt8) : Int := match ptR 9 l with
  | some v => v
  | none => 0
theorem ptR_no {K : Nat} {l : List UInt8} (h : (43 : UInt8) ∉ l) : ptR K l = (num K l).map (8 * ·) := by rw [ptR, spl_one _ _ h]
def ptC : Option Nat → Option Nat → Option Nat
  | some n, some k => if 1 ≤ k ∧ k ≤ 7 then some (8 * n + k) else none
  | _, _ => none
theorem ptR_cut {K : Nat} {p r : List UInt8} (h : (43 : UInt8) ∉ p) : ptR K (p ++ 43 :: r) = ptC (num K p) (num K r) := by
  rw [ptR, spl_cons _ _ _ h]
  by_cases hr : (43 : UInt8) ∈ r
  · have hn := num_plus (K := K) (by decide) hr
    have h2 : ∃ a b P, spl 43 r = a :: b :: P := by
      rcases idx_split 43 r with ⟨h1, -⟩ | ⟨a, b, h1, h2, -⟩
      · exact absurd hr h1
      · rw [h1, spl_cons _ _ _ h2]
        cases h3 : spl 43 b with
        | nil => exact absurd h3 (spl_ne _ _)
        | cons x P => exact ⟨a, x, P, rfl⟩
    obtain ⟨a, b, P, h3⟩ := h2
    rw [h3, hn]
    cases num K p <;> rfl
  · rw [spl_one _ _ hr]
    change (match num K p, num K r with | some n, some k => if 1 ≤ k ∧ k ≤ 7 then some (8 * n + k) else none | _, _ => none) = _
    cases num K p <;> cases num K r <;> rfl

set_option maxHeartbeats 3200000 in
set_option maxRecDepth 100000 in
theorem readSteps_any (l : List UInt8) (hl : l.length ≤ 1048576) (m : Int) (w : World) (hm : Mxl w m) : Calls Tryz.prog 66 #[.string (bs l)] w fun e w' => e = .returned (.tuple #[.int .i64 (ppV l), .bool (ptR 9 l).isSome]) ∧ Below w.heap.size w w' := by
  have C0 := Lib.hid (cutc_any l 43 hl m w hm)
  by_cases hp : (43 : UInt8) ∈ l
  · obtain ⟨p, r, h1, h2, h3⟩ := cut_yes hp
    have hpl : p.length ≤ 1048576 := by rw [h1] at hl; simp only [List.length_append, List.length_cons] at hl; omega
    have hrl : r.length ≤ 1048576 := by rw [h1] at hl; simp only [List.length_append, List.length_cons] at hl; omega
    rw [h3] at C0
    have C1 := Lib.hid (natural_any p hpl)
    have C2 := Lib.hid (natural_any r hrl)
    have HC := Lib.hid (show ptR 9 l = ptC (num 9 p) (num 9 r) by rw [h1]; exact ptR_cut h2)
    clear h1 h2 h3 hp
    cases hn : num 9 p with
    | none =>
      rw [hn, ntV_none hn] at C1
      have HR := Lib.hid (show ptR 9 l = none by rw [HC.out, hn]; cases num 9 r <;> rfl)
      clear hn
      go_enter Tryz.func66, Tryz.ntmps66
      go_wp2_with fail
      refine C0.out.mono ?_
      rintro e w1 ⟨rfl, hq⟩
      go_wp2_with fail
      refine (C1.out w1).mono ?_
      rintro e _ ⟨rfl, rfl⟩
      go_wp2
      go_ret2
      exact ⟨ret_nb (by rw [ppV, HR.out]) (by rw [HR.out]; rfl), hq⟩
    | some n =>
      have hn9 := num_lt hn
      rw [hn, ntV_some hn] at C1
      cases hk : inR (ntV r) 1 7
      all_goals cases hr : num 9 r with
      | none =>
        have HR := Lib.hid (show ptR 9 l = none by rw [HC.out, hn, hr]; rfl)
        rw [hr, ntV_none hr] at C2
        clear hn hk hr
        go_enter Tryz.func66, Tryz.ntmps66
        go_wp2_with fail
        refine C0.out.mono ?_
        rintro e w1 ⟨rfl, hq⟩
        go_wp2_with fail
        refine (C1.out w1).mono ?_
        rintro e _ ⟨rfl, rfl⟩
        go_wp2_with fail
        refine (C2.out w1).mono ?_
        rintro e _ ⟨rfl, rfl⟩
        go_wp2
        go_ret2
        exact ⟨ret_nb (by rw [ppV, HR.out]) (by rw [HR.out]; rfl), hq⟩
      | some k =>
        have HR := Lib.hid (show ptR 9 l = if 1 ≤ k ∧ k ≤ 7 then some (8 * n + k) else none by rw [HC.out, hn, hr]; rfl)
        rw [ntV_some hr] at hk
        rw [hr, ntV_some hr] at C2
        have HK := Lib.hid hk
        have hw1 : IntKind.i64.wrap (8 * (n : Int)) = 8 * (n : Int) := IntWalk.i64_in _ (by omega)
        have hkk : (k : Int) < 1000000000 := by have := num_lt hr; omega
        have hw2 : IntKind.i64.wrap (8 * (n : Int) + k) = 8 * (n : Int) + k := IntWalk.i64_in _ (by omega)
        clear hn hk hr
        go_enter Tryz.func66, Tryz.ntmps66
        go_wp2_with fail
        refine C0.out.mono ?_
        rintro e w1 ⟨rfl, hq⟩
        go_wp2_with fail
        refine (C1.out w1).mono ?_
        rintro e _ ⟨rfl, rfl⟩
        go_wp2_with fail
        refine (C2.out w1).mono ?_
        rintro e _ ⟨rfl, rfl⟩
        go_wp2_with fail
        refine (within_any _ _ _ _).mono ?_
        rintro e _ ⟨rfl, rfl⟩
        rw [HK.out]
        go_wp2
        go_ret2
        refine ⟨?_, hq⟩
        first
        | (have h5 := inR_iff.1 HK.out; rw [if_pos ⟨by omega, by omega⟩] at HR; exact ret_nb (by rw [ppV, HR.out]; simp) (by rw [HR.out]; rfl))
        | (rw [if_neg (fun h5 => by have h6 : inR (k : Int) 1 7 = true := inR_iff.2 ⟨by omega, by omega⟩; rw [HK.out] at h6; cases h6)] at HR; exact ret_nb (by rw [ppV, HR.out]) (by rw [HR.out]; rfl))
  · have h3 := cut_no hp
    rw [h3] at C0
    have C1 := Lib.hid (natural_any l hl)
    have HC := Lib.hid (ptR_no (K := 9) hp)
    clear h3 hp
    cases hn : num 9 l with
    | none =>
      rw [hn, ntV_none hn] at C1
      have HR := Lib.hid (show ptR 9 l = none by rw [HC.out, hn]; rfl)
      clear hn
      go_enter Tryz.func66, Tryz.ntmps66
      go_wp2_with fail
      refine C0.out.mono ?_
      rintro e w1 ⟨rfl, hq⟩
      go_wp2_with fail
      refine (C1.out w1).mono ?_
      rintro e _ ⟨rfl, rfl⟩
      go_wp2
      go_ret2
      exact ⟨ret_nb (by rw [ppV, HR.out]) (by rw [HR.out]; rfl), hq⟩
    | some n =>
      have hn9 := num_lt hn
      rw [hn, ntV_some hn] at C1
      have HR := Lib.hid (show ptR 9 l = some (8 * n) by rw [HC.out, hn]; rfl)
      have hw1 : IntKind.i64.wrap (8 * (n : Int)) = 8 * (n : Int) := IntWalk.i64_in _ (by omega)
      clear hn
      go_enter Tryz.func66, Tryz.ntmps66
      go_wp2_with fail
      refine C0.out.mono ?_
      rintro e w1 ⟨rfl, hq⟩
      go_wp2_with fail
      refine (C1.out w1).mono ?_
      rintro e _ ⟨rfl, rfl⟩
      go_wp2
      go_ret2
      exact ⟨ret_nb (by rw [ppV, HR.out]; simp) (by rw [HR.out]; rfl), hq⟩

theorem ppV_some {l : List UInt8} {n : Nat} (h : ptR 9 l = some n) : ppV l = n := by rw [ppV, h]
theorem ppV_none {l : List UInt8} (h : ptR 9 l = none) : ppV l = 0 := by rw [ppV, h]
set_option maxHeartbeats 3200000 in
set_option maxRecDepth 100000 in
theorem ParseSpot_any (l : List UInt8) (hl : l.length ≤ 1048576) (m : Int) (w : World) (hm : Mxl w m) : Calls Tryz.prog 41 #[.string (bs l)] w (RetRd w l) := by
  have hb0 := Blk.new w #[.int .i64 0, .int .i64 0] 25
  have hq0 : Below w.heap.size w (w.alloc (.cells #[.int .i64 0, .int .i64 0] 25)) := (Below.refl _ _).alloc (Nat.le_refl _) _
  have HM := Lib.hid (hm.below hq0)
  have C0 := Lib.hid (cutc_any l 44 hl m _ HM.out)
  by_cases hp : (44 : UInt8) ∈ l
  case neg =>
    rw [cut_no hp] at C0
    have HNO := Lib.hid (show ∀ s, isSp s = true → spT s ≠ l from fun s h e => hp (by rw [← e, (spT_nat h).1]; simp))
    clear hp
    go_enter Tryz.func41, Tryz.ntmps41
    go_wp2_with fail
    refine C0.out.mono ?_
    rintro e w1 ⟨rfl, hq⟩
    have HB1 := Lib.hid (hb0.below hq (by simp))
    have HQ1 := Lib.hid (Below.next hq hq0 hq0.size)
    have q0 := HB1.out.cell 0
    have q1 := HB1.out.cell 1
    have k0 := HB1.out.frozen 0
    have k1 := HB1.out.frozen 1
    simp at q0 q1
    clear hq hb0 hq0 HM C0
    go_wp2
    exact bodyPost_ret (v := .tuple #[.agg #[.int .i64 0, .int .i64 0], .bool false]) (by simp [results, Tryz.results41, go_sem, q0, q1]) rfl (RetRd.no HNO.out ((HQ1.out.setCell (Nat.le_refl _) _).setCell (Nat.le_refl _) _))
  obtain ⟨a, b, h1, h2, h3⟩ := cut_yes hp
  have hal : a.length ≤ 1048576 := by rw [h1] at hl; simp only [List.length_append, List.length_cons] at hl; omega
  have hbl : b.length ≤ 1048576 := by rw [h1] at hl; simp only [List.length_append, List.length_cons] at hl; omega
  rw [h3] at C0
  have HS := Lib.hid (fun (s : Sp) (h : isSp s = true) => sp_read (K := 9) (by omega) h1 h2 h)
  have C1 := Lib.hid (readSteps_any a hal m)
  have C2 := Lib.hid (readSteps_any b hbl m)
  clear h1 h2 h3 hp
  go_enter Tryz.func41, Tryz.ntmps41
  go_wp2_with fail
  refine C0.out.mono ?_
  rintro e w1 ⟨rfl, hq⟩
  have HB1 := Lib.hid (hb0.below hq (by simp))
  have HQ1 := Lib.hid (Below.next hq hq0 hq0.size)
  have HM1 := Lib.hid (HM.out.below hq)
  clear hq hb0 hq0 HM C0
  go_wp2_with fail
  refine (C1.out w1 HM1.out).mono ?_
  rintro e w2 ⟨rfl, hq⟩
  have HB2 := Lib.hid (HB1.out.below hq HB1.out.lt)
  have HQ2 := Lib.hid (Below.next hq HQ1.out HQ1.out.size)
  have HM2 := Lib.hid (HM1.out.below hq)
  clear hq HB1 HQ1 HM1 C1
  go_wp2_with fail
  refine (C2.out w2 HM2.out).mono ?_
  rintro e w3 ⟨rfl, hq⟩
  have HB3 := Lib.hid (HB2.out.below hq HB2.out.lt)
  have HQ3 := Lib.hid (Below.next hq HQ2.out HQ2.out.size)
  have hg3 := HB3.out.lt
  have hg4 : w.heap.size < w3.heap.size + 1 := by omega
  clear hq HB2 HQ2 HM2 C2
  have q0 := HB3.out.cell 0
  have q1 := HB3.out.cell 1
  have k0 := HB3.out.frozen 0
  have k1 := HB3.out.frozen 1
  simp at q0 q1
  cases hx : ptR 9 a with
  | none =>
    have HNO := Lib.hid (show ∀ s, isSp s = true → spT s ≠ l from fun s h e => by
      have := ((HS.out s h).1 e).1
      rw [hx] at this
      cases this)
    rw [ppV_none hx]
    clear hx
    go_wp2
    exact bodyPost_ret (v := .tuple #[.agg #[.int .i64 0, .int .i64 0], .bool false]) (by simp [results, Tryz.results41, go_sem, q0, q1, hg3]) rfl (RetRd.no HNO.out (by (repeat (first | exact Below.refl _ _ | assumption | (refine Below.alloc ?_ (by first | omega | (simp; done) | (simp; omega)) _) | (refine Below.setCell ?_ (by first | omega | (simp; done) | (simp; omega)) _) | (refine Below.drew ?_) | (refine Below.drewN ?_ _) | (refine Below.next (by assumption) ?_ (by first | omega | (simp; done) | (simp; omega)))))))
  | some x =>
    rw [ppV_some hx]
    cases hy : ptR 9 b with
    | none =>
      have HNO := Lib.hid (show ∀ s, isSp s = true → spT s ≠ l from fun s h e => by
        have := ((HS.out s h).1 e).2
        rw [hy] at this
        cases this)
      rw [ppV_none hy]
      clear hx hy
      go_wp2
      exact bodyPost_ret (v := .tuple #[.agg #[.int .i64 0, .int .i64 0], .bool false]) (by simp [results, Tryz.results41, go_sem, q0, q1, hg3]) rfl (RetRd.no HNO.out (by (repeat (first | exact Below.refl _ _ | assumption | (refine Below.alloc ?_ (by first | omega | (simp; done) | (simp; omega)) _) | (refine Below.setCell ?_ (by first | omega | (simp; done) | (simp; omega)) _) | (refine Below.drew ?_) | (refine Below.drewN ?_ _) | (refine Below.next (by assumption) ?_ (by first | omega | (simp; done) | (simp; omega)))))))
    | some y =>
      rw [ppV_some hy]
      have HX := Lib.hid (And.intro hx hy)
      clear hx hy
      cases hok : isSp ⟨(x : Int), (y : Int)⟩
      · have HNO := Lib.hid (show ∀ s, isSp s = true → spT s ≠ l from fun s h e => by
          have h1 := (HS.out s h).1 e
          have h2 := spT_nat h
          have e1 := Option.some.inj (HX.out.1.symm.trans h1.1)
          have e2 := Option.some.inj (HX.out.2.symm.trans h1.2)
          have e3 : s = ⟨(x : Int), (y : Int)⟩ := by
            cases s
            simp only [Sp.mk.injEq] at *
            omega
          rw [← e3, h] at hok
          cases hok)
        have HK := Lib.hid hok
        clear hok
        go_wp2_with fail
        refine (isSpot_any ⟨(x : Int), (y : Int)⟩ _).mono ?_
        rintro e _ ⟨rfl, o, rfl⟩
        rw [HK.out]
        go_wp2
        exact bodyPost_ret (v := .tuple #[.agg #[.int .i64 0, .int .i64 0], .bool false]) (by simp [results, Tryz.results41, go_sem, q0, q1, hg3, hg4]) rfl (RetRd.no HNO.out (by (repeat (first | exact Below.refl _ _ | assumption | (refine Below.alloc ?_ (by first | omega | (simp; done) | (simp; omega)) _) | (refine Below.setCell ?_ (by first | omega | (simp; done) | (simp; omega)) _) | (refine Below.drew ?_) | (refine Below.drewN ?_ _) | (refine Below.next (by assumption) ?_ (by first | omega | (simp; done) | (simp; omega)))))))
      · have HY := Lib.hid (And.intro hok ((HS.out ⟨(x : Int), (y : Int)⟩ hok).2 ⟨by rw [HX.out.1]; simp, by rw [HX.out.2]; simp⟩))
        have HK := Lib.hid hok
        clear hok
        go_wp2_with fail
        refine (isSpot_any ⟨(x : Int), (y : Int)⟩ _).mono ?_
        rintro e _ ⟨rfl, o, rfl⟩
        rw [HK.out]
        go_wp2
        exact bodyPost_ret (v := .tuple #[.agg #[.int .i64 x, .int .i64 y], .bool true]) (by simp [results, Tryz.results41, go_sem, q0, q1, hg3, hg4]) rfl (RetRd.yes HY.out.1 HY.out.2 (by (repeat (first | exact Below.refl _ _ | assumption | (refine Below.alloc ?_ (by first | omega | (simp; done) | (simp; omega)) _) | (refine Below.setCell ?_ (by first | omega | (simp; done) | (simp; omega)) _) | (refine Below.drew ?_) | (refine Below.drewN ?_ _) | (refine Below.next (by assumption) ?_ (by first | omega | (simp; done) | (simp; omega)))))))
end Go.Proofs.YtdmgffcabjpihaaGreatDoor
