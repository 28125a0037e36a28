/-
  What the program reads as a sheet.
-/
import Derived.Test.YtdmgffcabjpihaaGreatDoorPsb
import Derived.Test.YtdmgffcabjpihaaGreatDoorPsc
namespace Go.Proofs.YtdmgffcabjpihaaGreatDoor
open Go.RowKit
open Go.Sort (grow)
open Go.Lib (decDigits)

theorem run_upto {l : List UInt8} {k : Nat} (h : k ≤ l.length) (w : World) : Sem.run Tryz.prog (Instr.slice 9 (.string (bs l)) none (some (.int .i64 k)) none) w = .ok (.string (bs (l.take k))) w := by
  rw [run_slice_string_to_if _ _ _ _ _ Tryz.underlying9, if_pos ⟨by omega, by rw [bs_size]; omega⟩]
  simp only [Int.toNat_natCast]
  rw [bs_cut]
  simp
/-- The lines of a text. -/
def RetLn (w : World) (t : List UInt8) (e : Ending) (w' : World) : Prop :=
  ∃ (A' : Option Addr) (c' : Nat) (P : List (List UInt8)) (ok : Bool), e = .returned (.tuple #[.slice A' P.length c', .bool ok]) ∧ Mem w' A' (strs P) ∧ P.length ≤ c' ∧ ((ok = true ∧ ∃ u, t = u ++ [10] ∧ P = spl 10 u) ∨ (P = [] ∧ ∀ u, t ≠ u ++ [10])) ∧ Below w.heap.size w w'

set_option maxHeartbeats 1600000 in
set_option maxRecDepth 100000 in
theorem linesOf_any (t : List UInt8) (ht : t.length ≤ 1048576) (m : Int) (w : World) (hm : Mxl w m) : Calls Tryz.prog 38 #[.string (bs t)] w (RetLn w t) := by
  have hz := bs_size t
  by_cases h0 : t.length = 0
  · have hne : (bs t).toList = [] := by
      rw [List.eq_nil_of_length_eq_zero h0]
      exact ByteArray.toList_mk []
    have HN := Lib.hid (show ∀ u, t ≠ u ++ [10] from fun u e => by rw [e] at h0; simp at h0)
    clear h0
    go_enter Tryz.func38, Tryz.ntmps38
    go_wp2
    go_ret2
    exact ⟨some ⟨w.heap.size, 0, none⟩, 0, [], true, rfl, fun h => absurd h (by simp [strs]), Nat.le_refl _, .inr ⟨rfl, HN.out⟩, (Below.refl _ _).alloc (Nat.le_refl _) _⟩
  · obtain ⟨b, hb⟩ := some_of_lt (L := t) (k := t.length - 1) (by omega)
    have hx := byte_at hb
    have hne := bs_some (l := t) (by omega)
    have hne2 : (bs t).toList.isEmpty = false := by simpa using hne
    have hw : IntKind.i64.wrap ((t.length : Int) - 1) = ((t.length - 1 : Nat) : Int) := by rw [IntWalk.i64_in _ (by omega)]; omega
    have HE := Lib.hid (show t = t.take (t.length - 1) ++ [b] by
      have h1 := List.take_add_one (l := t) (i := t.length - 1)
      rw [hb, Nat.sub_add_cancel (by omega), List.take_length] at h1
      exact h1)
    clear hb h0
    by_cases h10 : b = 10
    · subst h10
      have hs := run_upto (l := t) (k := t.length - 1) (by omega)
      have C1 := Lib.hid (split_any (t.take (t.length - 1)) 10 (by simp; omega) m w hm)
      go_enter Tryz.func38, Tryz.ntmps38
      go_wp2_with fail
      refine C1.out.mono ?_
      rintro e w1 ⟨A, c, rfl, ho, hq⟩
      have HO := Lib.hid ho
      have HQ := Lib.hid hq
      clear ho hq
      go_wp2
      go_ret2
      exact ⟨A, c, _, true, rfl, Mem.of_own HO.out, own_capP HO.out, .inl ⟨rfl, _, HE.out, rfl⟩, HQ.out⟩
    · have hb2 : ((b.toNat : Int) == 10) = false := beq_eq_false_iff_ne.2 (fun e => h10 (UInt8.toNat_inj.1 (by show b.toNat = 10; omega)))
      have HN := Lib.hid (show ∀ u, t ≠ u ++ [10] from fun u e => by
        rw [e] at HE
        have := (List.append_inj_right' HE.out rfl)
        simp at this
        exact h10 this.symm)
      clear h10
      go_enter Tryz.func38, Tryz.ntmps38
      go_wp2
      go_ret2
      exact ⟨none, 0, [], false, rfl, fun h => absurd h (by simp [strs]), by simp, .inr ⟨rfl, HN.out⟩, Below.refl _ _⟩

theorem spl_line {t u : List UInt8} (h : t = u ++ [10]) : spl 10 t = spl 10 u ++ [[]] := by
  obtain ⟨Q, q, hq⟩ : ∃ Q q, spl 10 u = Q ++ [q] := ⟨(spl 10 u).dropLast, (spl 10 u).getLast (spl_ne _ _), (List.dropLast_concat_getLast _).symm⟩
  rw [h, spl_snoc 10 10 u Q q hq, if_pos rfl, hq]
  simp
theorem shT_end (p : Int) (s : Sp) (L : List Rw) : ∃ u, shT p s L = u ++ [10] := by
  have e1 : ∀ L : List Rw, ∃ u, hdT p s ++ L.flatMap rwT = u ++ [10] := by
    intro L
    rcases List.eq_nil_or_concat L with rfl | ⟨M, r, rfl⟩
    · exact ⟨hdL p s, by simp [hdT, hdL]⟩
    · exact ⟨hdT p s ++ M.flatMap rwT ++ rwL r, by simp [rwT, rwL]⟩
  exact e1 L
theorem ntV_bd (l : List UInt8) : 0 ≤ ntV l ∧ ntV l < 1000000000 := by
  unfold ntV
  cases h : num 9 l with
  | none => simp
  | some n => have := num_lt h; simp; omega
theorem num_itoa {c : Int} (h0 : 0 ≤ c) (h1 : c < 1000000) : num 9 (Lib.itoa c) = some c.toNat := by
  obtain ⟨n, rfl⟩ := Int.eq_ofNat_of_zero_le h0
  rw [itoa_nat]
  exact num_iff.2 ⟨rfl, Nat.le_trans (dec_len n (by omega)) (by omega)⟩
theorem itoa_num {l : List UInt8} {n : Nat} (h : num 9 l = some n) : Lib.itoa (n : Int) = l := by
  rw [itoa_nat]
  exact (num_iff.1 h).1

theorem below_fin {w w1 : World} {g : Nat} (h : Below w.heap.size w w1) (hg : w.heap.size ≤ g) (a b c d : Value) (o : Obj) : Below w.heap.size w (((((w1.setCell ⟨g, 0, none⟩ a).setCell ⟨g, 1, none⟩ b).setCell ⟨g, 2, none⟩ c).setCell ⟨g, 3, none⟩ d).alloc o) := by
  have k := (((h.setCell (p := ⟨g, 0, none⟩) hg a).setCell (p := ⟨g, 1, none⟩) hg b).setCell (p := ⟨g, 2, none⟩) hg c).setCell (p := ⟨g, 3, none⟩) hg d
  exact k.alloc k.size o
theorem box3 {w : World} {g : Nat} {a b c d : Value} {t : TypeId} (h : Blk w g #[a, b, c, d] t) (x y z : Value) : Blk ((((w.setCell ⟨g, 0, none⟩ x).setCell ⟨g, 1, none⟩ y).setCell ⟨g, 2, none⟩ z).drew) g #[x, y, z, d] t := (((h.set 0 x).set 1 y).set 2 z).drew
theorem below3 (w : World) (g : Nat) (x y z : Value) : Below g w ((((w.setCell ⟨g, 0, none⟩ x).setCell ⟨g, 1, none⟩ y).setCell ⟨g, 2, none⟩ z).drew) :=
  ((((Below.refl g w).setCell (p := ⟨g, 0, none⟩) (Nat.le_refl g) x).setCell (p := ⟨g, 1, none⟩) (Nat.le_refl g) y).setCell (p := ⟨g, 2, none⟩) (Nat.le_refl g) z).drew
theorem own3 {w : World} {base : Nat} {e : TypeId} {size : Nat} {v : Value} {n : Nat} {xs : List Value} {g : Nat} (h : w.ownsRow base e size v n xs) (hne : v.ownBlock ≠ some g) (x y z : Value) : ((((w.setCell ⟨g, 0, none⟩ x).setCell ⟨g, 1, none⟩ y).setCell ⟨g, 2, none⟩ z).drew).ownsRow base e size v n xs :=
  own_drew (own_othP (p := ⟨g, 2, none⟩) (own_othP (p := ⟨g, 1, none⟩) (own_othP (p := ⟨g, 0, none⟩) h hne) hne) hne)
set_option maxHeartbeats 6400000 in
set_option maxRecDepth 100000 in
theorem impl_ParseSheet_any (t : List UInt8) (ht : t.length ≤ 1048576) (m : Int) (w : World) (hmx : Mxl w m) : Calls Tryz.prog 17 #[.string (bs t)] w (RetPr w t) := by
  have hz := bs_size t
  have HMX := Lib.hid hmx
  clear hmx
  go_enter Tryz.func17, Tryz.ntmps17
  go_wp2_with fail
  have hb0 := Blk.new w #[.int .i64 0, .int .i64 0, .int .i64 0, .slice none 0 0] 28
  have hq0 : Below w.heap.size w (w.alloc (.cells #[.int .i64 0, .int .i64 0, .int .i64 0, .slice none 0 0] 28)) := (Below.refl _ _).alloc (Nat.le_refl _) _
  have HB0 := Lib.hid hb0
  have HQ0 := Lib.hid hq0
  clear hb0 hq0
  generalize w.alloc (.cells #[.int .i64 0, .int .i64 0, .int .i64 0, .slice none 0 0] 28) = w0 at *
  generalize hgs : w.heap.size = g at HB0 ⊢
  have HG := Lib.hid (Nat.le_of_eq hgs)
  clear hgs
  refine (linesOf_any t ht m w0 (HMX.out.below HQ0.out)).mono ?_
  rintro e w1 ⟨A, c, P, ok0, rfl, hm, hc, hor, hq⟩
  have HQ1 := Lib.hid (Below.next hq HQ0.out HQ0.out.size)
  have HB1 := Lib.hid (HB0.out.below hq HB0.out.lt)
  have HM := Lib.hid hm
  have HCAP := Lib.hid hc
  clear hq HB0 HQ0 hm hc
  have q0 := HB1.out.cell 0
  have q1 := HB1.out.cell 1
  have q2 := HB1.out.cell 2
  have q3 := HB1.out.cell 3
  have k0 := HB1.out.frozen 0
  have k1 := HB1.out.frozen 1
  have k2 := HB1.out.frozen 2
  have k3 := HB1.out.frozen 3
  simp at q0 q1 q2 q3
  rcases hor with ⟨rfl, u, hu, hP⟩ | ⟨rfl, hu⟩
  case inr =>
    have HNO := Lib.hid (show ∀ p s L, shOk p s L = true → shT p s L ≠ t from fun p s L h e => by
      obtain ⟨v, hv⟩ := shT_end p s L
      exact hu v (e.symm.trans hv))
    clear hu
    cases ok0
    · go_wp2
      exact bodyPost_ret (v := .tuple #[.agg #[.int .i64 0, .int .i64 0, .int .i64 0, .slice none 0 0], .bool false]) (by simp [results, Tryz.results17, go_sem, q0, q1, q2, q3]) rfl (RetPr.no HNO.out ((((HQ1.out.setCell HG.out _).setCell HG.out _).setCell HG.out _).setCell HG.out _))
    · have hin : inR 0 1 9 = false := by decide
      simp only [List.length_nil]
      go_wp2_with fail
      refine (within_any _ _ _ _).mono ?_
      rintro e _ ⟨rfl, rfl⟩
      rw [hin]
      clear hin
      go_wp2
      exact bodyPost_ret (v := .tuple #[.agg #[.int .i64 0, .int .i64 0, .int .i64 0, .slice none 0 0], .bool false]) (by simp [results, Tryz.results17, go_sem, q0, q1, q2, q3]) rfl (RetPr.no HNO.out ((((HQ1.out.setCell HG.out _).setCell HG.out _).setCell HG.out _).setCell HG.out _))
  have HP := Lib.hid (show spl 10 t = P ++ [[]] by rw [hP]; exact spl_line hu)
  have HPL := Lib.hid (show ∀ p ∈ P, p.length ≤ t.length from fun p hp => by
    have := pieces_le (c := 10) (l := u) p (by rw [← hP]; exact hp)
    rw [hu]
    simp
    omega)
  have hp0 : 0 < P.length := by
    rcases Nat.eq_zero_or_pos P.length with h | h
    · exact absurd (List.eq_nil_of_length_eq_zero h) (by rw [hP]; exact spl_ne _ _)
    · exact h
  clear hP hu
  cases hin : inR (P.length : Int) 1 9
  · have HI := Lib.hid hin
    have HNO := Lib.hid (show ∀ p s L, shOk p s L = true → shT p s L ≠ t from fun p s L h e => by
      have h1 := (sheet_head h e).2.1
      have h2 := (shOk_iff.1 h).2.2.1
      rw [HP.out, List.length_append] at h1
      simp only [List.length_singleton] at h1
      have : inR (P.length : Int) 1 9 = true := inR_iff.2 ⟨by omega, by omega⟩
      rw [hin] at this
      cases this)
    clear hin
    go_wp2_with fail
    refine (within_any _ _ _ _).mono ?_
    rintro e _ ⟨rfl, rfl⟩
    rw [HI.out]
    go_wp2
    exact bodyPost_ret (v := .tuple #[.agg #[.int .i64 0, .int .i64 0, .int .i64 0, .slice none 0 0], .bool false]) (by simp [results, Tryz.results17, go_sem, q0, q1, q2, q3]) rfl (RetPr.no HNO.out ((((HQ1.out.setCell HG.out _).setCell HG.out _).setCell HG.out _).setCell HG.out _))
  have HI := Lib.hid hin
  have hin2 := inR_iff.1 hin
  clear hin
  obtain ⟨l0, hl0⟩ := some_of_lt (L := P) (k := 0) hp0
  obtain ⟨m1, off, rfl, x0⟩ := HM.out.str hl0
  simp only [Nat.add_zero] at x0
  have HL0 := Lib.hid hl0
  have hll : l0.length ≤ 1048576 := Nat.le_trans (HPL.out l0 (List.mem_of_getElem? hl0)) ht
  have hi0 : (0 : Int) < P.length := by omega
  have hm1 : m1 < w1.heap.size := World.block_lt_of_cell? _ _ x0
  have hg1 := HB1.out.lt
  clear hl0 q0 q1 q2 q3 k0 k1 k2 k3
  go_wp2_with fail
  refine (within_any _ _ _ _).mono ?_
  rintro e _ ⟨rfl, rfl⟩
  rw [HI.out]
  go_wp2_with fail
  have hbS := Blk.new (w1.alloc (.cells #[] 46)) #[.int .i64 0, .int .i64 0, .int .i64 0, .slice (some ⟨w1.heap.size, 0, none⟩) 0 0] 28
  have hqS : Below w1.heap.size w1 ((w1.alloc (.cells #[] 46)).alloc (.cells #[.int .i64 0, .int .i64 0, .int .i64 0, .slice (some ⟨w1.heap.size, 0, none⟩) 0 0] 28)) := ((Below.refl _ _).alloc (Nat.le_refl _) _).alloc (by simp) _
  have hoS : ((w1.alloc (.cells #[] 46)).alloc (.cells #[.int .i64 0, .int .i64 0, .int .i64 0, .slice (some ⟨w1.heap.size, 0, none⟩) 0 0] 28)).ownsRow w1.heap.size 46 3 (.slice (some ⟨w1.heap.size, 0, none⟩) 0 0) 0 [] := (own_empty (w := w1) 46 3 rfl (Nat.le_refl _) rfl).alloc _
  have HQ2 := Lib.hid (Below.next hqS HQ1.out HQ1.out.size)
  have HB2 := Lib.hid (HB1.out.below hqS hg1)
  have HM2 := Lib.hid (HM.out.below hqS)
  have HS2 := Lib.hid (show Blk _ (w1.heap.size + 1) _ _ by simpa using hbS)
  have HO2 := Lib.hid hoS
  have z0 := keep1 hqS x0
  have hgR : w1.heap.size < w1.heap.size + 1 := by omega
  have HGR := Lib.hid hgR
  have hwg := HQ1.out.size
  clear hbS hqS hoS x0 HQ1 HB1 HM hgR
  generalize (w1.alloc (.cells #[] 46)).alloc (.cells #[.int .i64 0, .int .i64 0, .int .i64 0, .slice (some ⟨w1.heap.size, 0, none⟩) 0 0] 28) = w2 at *
  generalize w1.heap.size + 1 = gS at *
  generalize w1.heap.size = gR at *
  refine (split_any l0 32 hll m w2 (HMX.out.below HQ2.out)).mono ?_
  rintro e w3 ⟨B, d, rfl, ho, hq⟩
  have HQ3 := Lib.hid (Below.next hq HQ2.out HQ2.out.size)
  have HB3 := Lib.hid (HB2.out.below hq HB2.out.lt)
  have HM3 := Lib.hid (HM2.out.below hq)
  have HS3 := Lib.hid (HS2.out.below hq HS2.out.lt)
  have HO3 := Lib.hid (own_below HO2.out hq)
  have HN3 := Lib.hid (Mem.of_own ho)
  have HQL := Lib.hid (pieces_le (c := 32) (l := l0))
  clear ho hq HB2 HQ2 HM2 HS2 HO2 z0
  obtain ⟨Q, hQ⟩ : ∃ Q, spl 32 l0 = Q := ⟨_, rfl⟩
  have HQQ := Lib.hid hQ
  rw [hQ] at HN3 HQL
  rw [hQ]
  clear hQ
  have HHD := Lib.hid (show ∀ p s L, shOk p s L = true → shT p s L = t → Q = [[112, 101, 114, 102, 111, 114, 109, 101, 114], Lib.itoa p, spT s] ∧ P.length = L.length + 1 from fun p s L h e => by
    obtain ⟨h1, h2, h3⟩ := sheet_head h e
    rw [HP.out, List.getElem?_append_left hp0, HL0.out] at h1
    cases h1
    rw [HQQ.out] at h3
    rw [HP.out, List.length_append] at h2
    simp only [List.length_singleton] at h2
    exact ⟨h3, by omega⟩)
  have q0 := HB3.out.cell 0
  have q1 := HB3.out.cell 1
  have q2 := HB3.out.cell 2
  have q3 := HB3.out.cell 3
  have k0 := HB3.out.frozen 0
  have k1 := HB3.out.frozen 1
  have k2 := HB3.out.frozen 2
  have k3 := HB3.out.frozen 3
  simp at q0 q1 q2 q3
  by_cases hq3 : Q.length = 3
  case neg =>
    have HNO := Lib.hid (show ∀ p s L, shOk p s L = true → shT p s L ≠ t from fun p s L h e => hq3 (by rw [(HHD.out p s L h e).1]; rfl))
    have hb2 : ¬ (Q.length : Int) = 3 := by omega
    clear hq3
    go_wp2
    exact bodyPost_ret (v := .tuple #[.agg #[.int .i64 0, .int .i64 0, .int .i64 0, .slice none 0 0], .bool false]) (by simp [results, Tryz.results17, go_sem, q0, q1, q2, q3]) rfl (RetPr.no HNO.out ((((HQ3.out.setCell HG.out _).setCell HG.out _).setCell HG.out _).setCell HG.out _))
  obtain ⟨a0, a1, a2, rfl⟩ : ∃ a b c, Q = [a, b, c] := by
    match Q, hq3 with
    | [a, b, c], _ => exact ⟨a, b, c, rfl⟩
  simp only [List.length_cons, List.length_nil]
  have ha1 : a1.length ≤ 1048576 := Nat.le_trans (HQL.out a1 (by simp)) hll
  have ha2 : a2.length ≤ 1048576 := Nat.le_trans (HQL.out a2 (by simp)) hll
  obtain ⟨m2, off2, rfl, y0⟩ := HN3.out.str (k := 0) (p := a0) rfl
  obtain ⟨m2', off2', hbe, y1⟩ := HN3.out.str (k := 1) (p := a1) rfl
  cases hbe
  obtain ⟨m2', off2', hbe, y2⟩ := HN3.out.str (k := 2) (p := a2) rfl
  cases hbe
  simp only [Nat.add_zero] at y0
  clear hq3 HN3 HQL
  by_cases hpf : a0 = [112, 101, 114, 102, 111, 114, 109, 101, 114]
  case neg =>
    have HNO := Lib.hid (show ∀ p s L, shOk p s L = true → shT p s L ≠ t from fun p s L h e => hpf (List.cons.inj (HHD.out p s L h e).1).1)
    have hne : ((bs a0).toList == [112, 101, 114, 102, 111, 114, 109, 101, 114]) = false := by
      rw [bs, ByteArray.toList_mk]
      exact beq_eq_false_iff_ne.2 hpf
    clear hpf
    go_wp2
    exact bodyPost_ret (v := .tuple #[.agg #[.int .i64 0, .int .i64 0, .int .i64 0, .slice none 0 0], .bool false]) (by simp [results, Tryz.results17, go_sem, q0, q1, q2, q3]) rfl (RetPr.no HNO.out ((((HQ3.out.setCell HG.out _).setCell HG.out _).setCell HG.out _).setCell HG.out _))
  subst hpf
  have hpe : (bs [112, 101, 114, 102, 111, 114, 109, 101, 114]).toList = [112, 101, 114, 102, 111, 114, 109, 101, 114] := ByteArray.toList_mk _
  have C1 := Lib.hid (natural_any a1 ha1)
  clear q0 q1 q2 q3 k0 k1 k2 k3
  go_wp2_with fail
  refine (C1.out w3).mono ?_
  rintro e _ ⟨rfl, rfl⟩
  go_wp2_with fail
  refine (ParseSpot_any a2 ha2 m w3 (HMX.out.below HQ3.out)).mono ?_
  rintro e w4 ⟨r, hr, rfl, hq⟩
  have HQ4 := Lib.hid (Below.next hq HQ3.out HQ3.out.size)
  have HB4 := Lib.hid (HB3.out.below hq HB3.out.lt)
  have HM4 := Lib.hid (HM3.out.below hq)
  have HS4 := Lib.hid (HS3.out.below hq HS3.out.lt)
  have HO4 := Lib.hid (own_below HO3.out hq)
  have HR := Lib.hid hr
  clear hq hr HB3 HQ3 HM3 HS3 HO3 y0 y1 y2 C1 hpe
  have q0 := HB4.out.cell 0
  have q1 := HB4.out.cell 1
  have q2 := HB4.out.cell 2
  have q3 := HB4.out.cell 3
  have k0 := HB4.out.frozen 0
  have k1 := HB4.out.frozen 1
  have k2 := HB4.out.frozen 2
  have k3 := HB4.out.frozen 3
  simp at q0 q1 q2 q3
  have hg4 := HB4.out.lt
  have hg5 : g < w4.heap.size + 1 := by omega
  cases hn : num 9 a1 with
  | none =>
    have HNO := Lib.hid (show ∀ p s L, shOk p s L = true → shT p s L ≠ t from fun p s L h e => by
      have h1 := (HHD.out p s L h e).1
      have h2 : a1 = Lib.itoa p := (List.cons.inj (List.cons.inj h1).2).1
      have h3 := inR_iff.1 (shOk_iff.1 h).1
      rw [h2, num_itoa (by omega) (by omega)] at hn
      cases hn)
    clear hn
    go_wp2
    exact bodyPost_ret (v := .tuple #[.agg #[.int .i64 0, .int .i64 0, .int .i64 0, .slice none 0 0], .bool false]) (by simp [results, Tryz.results17, go_sem, q0, q1, q2, q3, hg4]) rfl (RetPr.no HNO.out (below_fin HQ4.out HG.out _ _ _ _ _))
  | some n =>
    rw [ntV_some hn]
    cases r with
    | none =>
      have HNO := Lib.hid (show ∀ p s L, shOk p s L = true → shT p s L ≠ t from fun p s L h e => by
        have h1 := (HHD.out p s L h e).1
        have h2 : a2 = spT s := (List.cons.inj (List.cons.inj (List.cons.inj h1).2).2).1
        have h3 := (HR.out s).2 ⟨(shOk_iff.1 h).2.1, h2.symm⟩
        cases h3)
      clear hn
      go_wp2
      exact bodyPost_ret (v := .tuple #[.agg #[.int .i64 0, .int .i64 0, .int .i64 0, .slice none 0 0], .bool false]) (by simp [results, Tryz.results17, go_sem, q0, q1, q2, q3, hg4]) rfl (RetPr.no HNO.out (below_fin HQ4.out HG.out _ _ _ _ _))
    | some ra =>
      have hra := (HR.out ra).1 rfl
      have HH0 := Lib.hid (show hdL (n : Int) ra = l0 by
        rw [hdL, itoa_num hn, hra.2, ← jn_spl 32 l0, HQQ.out]
        rfl)
      have HF0 := Lib.hid (show ∀ p s L, shOk p s L = true → shT p s L = t → ra = s ∧ (n : Int) = p ∧ P.length = L.length + 1 from fun p s L h e => by
        obtain ⟨h1, h5⟩ := HHD.out p s L h e
        have h2 : a2 = spT s := (List.cons.inj (List.cons.inj (List.cons.inj h1).2).2).1
        have h4 : a1 = Lib.itoa p := (List.cons.inj (List.cons.inj h1).2).1
        have h3 := (HR.out s).2 ⟨(shOk_iff.1 h).2.1, h2.symm⟩
        have h6 := inR_iff.1 (shOk_iff.1 h).1
        rw [h4, num_itoa (by omega) (by omega)] at hn
        cases h3
        cases hn
        exact ⟨rfl, by omega, h5⟩)
      have HRA := Lib.hid hra.1
      have hnb := num_lt hn
      clear hn hra HR HHD HQQ q0 q1 q2 q3 k0 k1 k2 k3
      go_wp2_with fail
      have hbT := Blk.new w4 #[.int .i64 ra.x, .int .i64 ra.y] 25
      have hqT : Below w4.heap.size w4 (w4.alloc (.cells #[.int .i64 ra.x, .int .i64 ra.y] 25)) := (Below.refl _ _).alloc (Nat.le_refl _) _
      have HBT := Lib.hid hbT
      have HQ5 := Lib.hid (Below.next hqT HQ4.out HQ4.out.size)
      have HB5 := Lib.hid (HB4.out.below hqT HB4.out.lt)
      have HM5 := Lib.hid (HM4.out.below hqT)
      have HS5 := Lib.hid (HS4.out.below hqT HS4.out.lt)
      have HO5 := Lib.hid (own_below HO4.out hqT)
      have HTS := Lib.hid (show gS < w4.heap.size from HS4.out.lt)
      clear hbT hqT HQ4 HB4 HM4 HS4 HO4 hg4 hg5
      generalize w4.alloc (.cells #[.int .i64 ra.x, .int .i64 ra.y] 25) = w5 at *
      generalize w4.heap.size = gT at *
      have x0 := HBT.out.cell 0
      have x1 := HBT.out.cell 1
      have s0 := HS5.out.cell 0
      have s1 := HS5.out.cell 1
      have s2 := HS5.out.cell 2
      have f0 := HS5.out.frozen 0
      have f1 := HS5.out.frozen 1
      have f2 := HS5.out.frozen 2
      have hne := HTS.out
      simp at x0 x1 s0 s1 s2
      go_region
      have hqc := below3 w5 gS (.int .i64 (n : Int)) (.int .i64 ra.x) (.int .i64 ra.y)
      have HSc := Lib.hid (box3 HS5.out (.int .i64 (n : Int)) (.int .i64 ra.x) (.int .i64 ra.y))
      have hne3 : (Value.slice (some ⟨gR, 0, none⟩) 0 0).ownBlock ≠ some gS := by
        have := HGR.out
        simp [Value.ownBlock]
        omega
      have HOc := Lib.hid (own3 HO5.out hne3 (.int .i64 (n : Int)) (.int .i64 ra.x) (.int .i64 ra.y))
      have HKc := Lib.hid (hqc.mono (Nat.le_of_lt HGR.out))
      clear hne3
      clear hqc HS5 HO5 x0 x1 s0 s1 s2 f0 f1 f2 hne HBT
      generalize (((w5.setCell ⟨gS, 0, none⟩ (.int .i64 (n : Int))).setCell ⟨gS, 1, none⟩ (.int .i64 ra.x)).setCell ⟨gS, 2, none⟩ (.int .i64 ra.y)).drew = wc at *
      obtain ⟨N, hN⟩ : ∃ N, P.length = N + 1 := ⟨P.length - 1, by omega⟩
      have e0 : P.length - 1 = N := by omega
      have HNN := Lib.hid hN
      have hcap := HCAP.out
      have hi1 : (1 : Int) ≤ P.length := by omega
      have hN8 : N ≤ 8 := by omega
      clear hN
      by_cases hc1 : c = 1
      · have HN0 := Lib.hid (show N = 0 by have := HNN.out; omega)
        subst hc1
        go_wp2_with fail
        (try rw [e0])
        have HT0 := Lib.hid (show P.take (0 + 1) = hdL (n : Int) ra :: ([] : List Rw).map rwL by
          rw [List.take_add_one, HL0.out, HH0.out]
          rfl)
        clear e0 hcap HI hin2 hi0 ha1 ha2
        obtain ⟨i0, hi, hz0, hz1, hz2⟩ := info_parts info_row
        go_loopw [12, 13, 14, 15, 16, 17, 18, 19, 78] (fun _ _ _ _ _ _ _ _ i wr => ∃ (k : Nat) (R : List Rw) (rv : Value), k ≤ N ∧ i = .int .i64 k ∧ Hid (Blk wr gS #[.int .i64 (n : Int), .int .i64 ra.x, .int .i64 ra.y, rv] 28) ∧ Hid (wr.ownsRow gR 46 3 rv k (rows R)) ∧ Hid (rv.ownBlock ≠ some gS) ∧ Hid (R.length = k) ∧ Hid (∀ p s L, shOk p s L = true → shT p s L = t → R = L.take k) ∧ Hid (P.take (k + 1) = hdL (n : Int) ra :: R.map rwL) ∧ Hid (Below gR w5 wr)) (fun _ _ _ _ _ _ _ _ i _ => N - (intOf i).toNat)
        case atStart => exact ⟨0, [], .slice (some ⟨gR, 0, none⟩) 0 0, by omega, rfl, HSc, HOc, Lib.hid (by have := HGR.out; simp [Value.ownBlock]; omega), Lib.hid rfl, Lib.hid (fun _ _ _ _ _ => rfl), HT0, HKc⟩
        case round =>
          obtain ⟨k, R, rv, hk, rfl, HSk, HOk, HNk, HRk, HFk, HTk, HBk⟩ := hrel
          have HGk := Lib.hid (HB5.out.below HBk.out hg1)
          have HQk := Lib.hid (HQ5.out.trans (HBk.out.mono hwg))
          have hgk := HSk.out.lt
          by_cases hlt : k < N
          · exact absurd hlt (by have := HN0.out; omega)
          · obtain rfl : k = R.length := HRk.out.symm
            have HFN := Lib.hid (show ∀ p s L, shOk p s L = true → shT p s L = t → (n : Int) = p ∧ ra = s ∧ R = L from fun p s L h e => by
              obtain ⟨f1, f2, f3⟩ := HF0.out p s L h e
              have f4 := HFk.out p s L h e
              exact ⟨f2, f1, by rw [f4, List.take_of_length_le (by have := HNN.out; omega)]⟩)
            have HTX := Lib.hid (show shT (n : Int) ra R = t by
              have e1 := HTk.out
              rw [List.take_of_length_le (by have := HNN.out; omega)] at e1
              rw [shT_lines, ← jn_spl 10 t, HP.out, e1]
              rfl)
            obtain ⟨Ar, cr, rfl⟩ := own_form HOk.out
            have hrl : R.length ≤ 1048576 := by omega
            have x0 := HSk.out.cell 0
            have x1 := HSk.out.cell 1
            have x2 := HSk.out.cell 2
            have x3 := HSk.out.cell 3
            simp at x0 x1 x2 x3
            have C3 := Lib.hid (IsSheet_any (n : Int) ra Ar cr R wr (Mem.of_own HOk.out) hrl)
            cases hok : shOk (n : Int) ra R
            · have HNO := Lib.hid (show ∀ p s L, shOk p s L = true → shT p s L ≠ t from fun p s L h e => by
                obtain ⟨f1, f2, f3⟩ := HFN.out p s L h e
                rw [← f1, ← f2, ← f3, hok] at h
                cases h)
              rw [hok] at C3
              clear hok
              go_wp2_with fail
              refine C3.out.mono ?_
              rintro e w6 ⟨rfl, hq⟩
              have HG6 := Lib.hid (HGk.out.below hq HGk.out.lt)
              have HQ6 := Lib.hid (Below.next hq HQk.out HQk.out.size)
              clear x0 x1 x2 x3 hq
              have q0 := HG6.out.cell 0
              have q1 := HG6.out.cell 1
              have q2 := HG6.out.cell 2
              have q3 := HG6.out.cell 3
              have k0 := HG6.out.frozen 0
              have k1 := HG6.out.frozen 1
              have k2 := HG6.out.frozen 2
              have k3 := HG6.out.frozen 3
              simp at q0 q1 q2 q3
              go_wp2
              exact bodyPost_ret (v := .tuple #[.agg #[.int .i64 0, .int .i64 0, .int .i64 0, .slice none 0 0], .bool false]) (by simp [results, Tryz.results17, go_sem, q0, q1, q2, q3]) rfl (RetPr.no HNO.out ((((HQ6.out.setCell HG.out _).setCell HG.out _).setCell HG.out _).setCell HG.out _))
            · have HOKK := Lib.hid hok
              rw [hok] at C3
              clear hok
              go_wp2_with fail
              refine C3.out.mono ?_
              rintro e w7 ⟨rfl, hq⟩
              have HG7 := Lib.hid (HGk.out.below hq HGk.out.lt)
              have HQ7 := Lib.hid (Below.next hq HQk.out HQk.out.size)
              have HO7 := Lib.hid (own_below HOk.out hq)
              have HNG := Lib.hid (show (Value.slice Ar R.length cr).ownBlock ≠ some g from fun e => by have := (HOk.out.lt _ e).1; omega)
              have y0 := keep1 hq x0
              have y1 := keep1 hq x1
              have y2 := keep1 hq x2
              have y3 := keep1 hq x3
              clear x0 x1 x2 x3 hq
              have q0 := HG7.out.cell 0
              have q1 := HG7.out.cell 1
              have q2 := HG7.out.cell 2
              have q3 := HG7.out.cell 3
              have k0 := HG7.out.frozen 0
              have k1 := HG7.out.frozen 1
              have k2 := HG7.out.frozen 2
              have k3 := HG7.out.frozen 3
              simp at q0 q1 q2 q3
              go_wp2
              exact bodyPost_ret (v := .tuple #[.agg #[.int .i64 (n : Int), .int .i64 ra.x, .int .i64 ra.y, .slice Ar R.length cr], .bool true]) (by simp [results, Tryz.results17, go_sem, q0, q1, q2, q3]) rfl (RetPr.yes HOKK.out HTX.out (fun p s L h e => ⟨(HFN.out p s L h e).1.symm, (HFN.out p s L h e).2.1.symm, (HFN.out p s L h e).2.2.symm⟩) (own_othP (own_othP (own_othP (own_othP HO7.out HNG.out) HNG.out) HNG.out) HNG.out) rfl (by omega) ((((HQ7.out.setCell HG.out _).setCell HG.out _).setCell HG.out _).setCell HG.out _))
      · go_wp2_with fail
        (try rw [e0])
        have HT0 := Lib.hid (show P.take (0 + 1) = hdL (n : Int) ra :: ([] : List Rw).map rwL by
          rw [List.take_add_one, HL0.out, HH0.out]
          rfl)
        clear e0 hcap HI hin2 hi0 ha1 ha2
        obtain ⟨i0, hi, hz0, hz1, hz2⟩ := info_parts info_row
        go_loopw [12, 13, 14, 15, 16, 17, 18, 19, 78] (fun _ _ _ _ _ _ _ _ i wr => ∃ (k : Nat) (R : List Rw) (rv : Value), k ≤ N ∧ i = .int .i64 k ∧ Hid (Blk wr gS #[.int .i64 (n : Int), .int .i64 ra.x, .int .i64 ra.y, rv] 28) ∧ Hid (wr.ownsRow gR 46 3 rv k (rows R)) ∧ Hid (rv.ownBlock ≠ some gS) ∧ Hid (R.length = k) ∧ Hid (∀ p s L, shOk p s L = true → shT p s L = t → R = L.take k) ∧ Hid (P.take (k + 1) = hdL (n : Int) ra :: R.map rwL) ∧ Hid (Below gR w5 wr)) (fun _ _ _ _ _ _ _ _ i _ => N - (intOf i).toNat)
        case atStart => exact ⟨0, [], .slice (some ⟨gR, 0, none⟩) 0 0, by omega, rfl, HSc, HOc, Lib.hid (by have := HGR.out; simp [Value.ownBlock]; omega), Lib.hid rfl, Lib.hid (fun _ _ _ _ _ => rfl), HT0, HKc⟩
        case round =>
          obtain ⟨k, R, rv, hk, rfl, HSk, HOk, HNk, HRk, HFk, HTk, HBk⟩ := hrel
          have HGk := Lib.hid (HB5.out.below HBk.out hg1)
          have HQk := Lib.hid (HQ5.out.trans (HBk.out.mono hwg))
          have hgk := HSk.out.lt
          by_cases hlt : k < N
          · obtain ⟨line, hl⟩ := some_of_lt (L := P) (k := k + 1) (by have := HNN.out; omega)
            obtain ⟨m', off', hbe, x0⟩ := HM5.out.str hl
            cases hbe
            have x1 : wr.cell? ⟨m1, off + 1 + k, none⟩ = some (.string (bs line)) := by
              rw [show off + 1 + k = off + (k + 1) by omega]
              exact (HBk.out.cell hm1).trans x0
            have HLN := Lib.hid hl
            have hll2 : line.length ≤ 1048576 := Nat.le_trans (HPL.out line (List.mem_of_getElem? hl)) ht
            have HSL := Lib.hid (show ∀ p s L, shOk p s L = true → shT p s L = t → ∃ q, L[k]? = some q ∧ isRw q = true ∧ line = rwL q ∧ spl 32 line = [Lib.itoa q.c, spT q.t] from fun p s L h e =>
              sheet_line h e (k := k) (line := line) (by rw [HP.out, List.getElem?_append_left (by have := HNN.out; omega)]; exact hl) (by rw [HP.out, List.length_append, HNN.out]; simp; omega))
            clear x0 hl
            go_wp2_with fail
            refine (cutc_any line 32 hll2 m wr (HMX.out.below HQk.out)).mono ?_
            rintro e w6 ⟨rfl, hq⟩
            have HS6 := Lib.hid (HSk.out.below hq hgk)
            have HO6 := Lib.hid (own_below HOk.out hq)
            have HG6 := Lib.hid (HGk.out.below hq HGk.out.lt)
            have HQ6 := Lib.hid (Below.next hq HQk.out HQk.out.size)
            have HB6 := Lib.hid (HBk.out.trans (hq.mono (by have := HGR.out; omega)))
            have hg6 := HS6.out.lt
            clear hq HSk HOk HGk HQk HBk x1
            have HCU := Lib.hid (show ((Lib.cut line [32]).2.2 = true → line = (Lib.cut line [32]).1 ++ 32 :: (Lib.cut line [32]).2.1 ∧ (32 : UInt8) ∉ (Lib.cut line [32]).1) ∧ ((Lib.cut line [32]).2.2 = false → (32 : UInt8) ∉ line) ∧ (Lib.cut line [32]).1.length ≤ line.length ∧ (Lib.cut line [32]).2.1.length ≤ line.length by
              by_cases hc : (32 : UInt8) ∈ line
              · obtain ⟨p, q, h1, h2, h3⟩ := cut_yes hc
                rw [h3]
                refine ⟨fun _ => ⟨h1, h2⟩, (fun h => by cases h), ?_, ?_⟩ <;> (rw [h1]; simp; try omega)
              · rw [cut_no hc]
                exact ⟨(fun h => by cases h), fun _ => hc, Nat.le_refl _, by simp⟩)
            generalize (Lib.cut line [32]).1 = c1 at *
            generalize (Lib.cut line [32]).2.1 = c2 at *
            generalize (Lib.cut line [32]).2.2 = fd at *
            have hc1 : c1.length ≤ 1048576 := Nat.le_trans HCU.out.2.2.1 hll2
            have hc2 : c2.length ≤ 1048576 := Nat.le_trans HCU.out.2.2.2 hll2
            have HLI := Lib.hid (show ∀ p s L, shOk p s L = true → shT p s L = t → ∃ q, L[k]? = some q ∧ isRw q = true ∧ fd = true ∧ c1 = Lib.itoa q.c ∧ c2 = spT q.t from fun p s L h e => by
              obtain ⟨q, g1, g2, g3, g4⟩ := HSL.out p s L h e
              cases hfd : fd
              · exact absurd (show (32 : UInt8) ∈ line by rw [g3]; simp [rwL]) (HCU.out.2.1 hfd)
              · obtain ⟨g5, g6⟩ := HCU.out.1 hfd
                rw [g5, spl_cons _ _ _ g6] at g4
                obtain ⟨g7, g8⟩ := List.cons.inj g4
                refine ⟨q, g1, g2, rfl, g7, ?_⟩
                rw [← jn_spl 32 c2, g8]
                rfl)
            have C2 := Lib.hid (natural_any c1 hc1)
            go_wp2_with fail
            refine (C2.out w6).mono ?_
            rintro e _ ⟨rfl, rfl⟩
            go_wp2_with fail
            refine (ParseSpot_any c2 hc2 m w6 (HMX.out.below HQ6.out)).mono ?_
            rintro e w7 ⟨r2, hr2, rfl, hq⟩
            have HS7 := Lib.hid (HS6.out.below hq hg6)
            have HO7 := Lib.hid (own_below HO6.out hq)
            have HG7 := Lib.hid (HG6.out.below hq HG6.out.lt)
            have HQ7 := Lib.hid (Below.next hq HQ6.out HQ6.out.size)
            have HB7 := Lib.hid (HB6.out.trans (hq.mono (by have := HGR.out; omega)))
            have HR2 := Lib.hid hr2
            have hg7 := HS7.out.lt
            have hgw := HG7.out.lt
            clear hr2 hq HS6 HO6 HG6 HQ6 HB6 hg6 C2
            have q0 := HG7.out.cell 0
            have q1 := HG7.out.cell 1
            have q2 := HG7.out.cell 2
            have q3 := HG7.out.cell 3
            have k0 := HG7.out.frozen 0
            have k1 := HG7.out.frozen 1
            have k2 := HG7.out.frozen 2
            have k3 := HG7.out.frozen 3
            simp at q0 q1 q2 q3
            cases fd
            · have HNO := Lib.hid (show ∀ p s L, shOk p s L = true → shT p s L ≠ t from fun p s L h e => by
                obtain ⟨q, -, -, g3, -⟩ := HLI.out p s L h e
                cases g3)
              go_wp2
              exact bodyPost_ret (v := .tuple #[.agg #[.int .i64 0, .int .i64 0, .int .i64 0, .slice none 0 0], .bool false]) (by simp [results, Tryz.results17, go_sem, q0, q1, q2, q3, hgw]) rfl (RetPr.no HNO.out (below_fin HQ7.out HG.out _ _ _ _ _))
            cases hn2 : num 9 c1 with
            | none =>
              have HNO := Lib.hid (show ∀ p s L, shOk p s L = true → shT p s L ≠ t from fun p s L h e => by
                obtain ⟨q, -, g2, -, g4, -⟩ := HLI.out p s L h e
                have g5 := isRw_iff.1 g2
                rw [g4, num_itoa (by omega) (by omega)] at hn2
                cases hn2)
              clear hn2
              go_wp2
              exact bodyPost_ret (v := .tuple #[.agg #[.int .i64 0, .int .i64 0, .int .i64 0, .slice none 0 0], .bool false]) (by simp [results, Tryz.results17, go_sem, q0, q1, q2, q3, hgw]) rfl (RetPr.no HNO.out (below_fin HQ7.out HG.out _ _ _ _ _))
            | some n2 =>
              rw [ntV_some hn2]
              cases r2 with
              | none =>
                have HNO := Lib.hid (show ∀ p s L, shOk p s L = true → shT p s L ≠ t from fun p s L h e => by
                  obtain ⟨q, -, g2, -, -, g4⟩ := HLI.out p s L h e
                  have g5 := isRw_iff.1 g2
                  have := (HR2.out q.t).2 ⟨g5.2, g4.symm⟩
                  cases this)
                clear hn2
                go_wp2
                exact bodyPost_ret (v := .tuple #[.agg #[.int .i64 0, .int .i64 0, .int .i64 0, .slice none 0 0], .bool false]) (by simp [results, Tryz.results17, go_sem, q0, q1, q2, q3, hgw]) rfl (RetPr.no HNO.out (below_fin HQ7.out HG.out _ _ _ _ _))
              | some rb =>
                have hrb := (HR2.out rb).1 rfl
                have hln := HCU.out.1 rfl
                have HLW := Lib.hid (show line = rwL ⟨(n2 : Int), rb⟩ by rw [hln.1, rwL, itoa_num hn2, hrb.2])
                have HF9 := Lib.hid (show ∀ p s L, shOk p s L = true → shT p s L = t → R ++ [(⟨(n2 : Int), rb⟩ : Rw)] = L.take (k + 1) from fun p s L h e => by
                  obtain ⟨q, g1, g2, -, g4, g6⟩ := HLI.out p s L h e
                  have g5 := isRw_iff.1 g2
                  have g7 := (HR2.out q.t).2 ⟨g5.2, g6.symm⟩
                  cases g7
                  rw [g4, num_itoa (by omega) (by omega)] at hn2
                  cases hn2
                  rw [List.take_add_one, g1, ← HFk.out p s L h e]
                  simp only [Option.toList_some, List.append_cancel_left_eq, List.cons.injEq, and_true]
                  cases q
                  simp only [Rw.mk.injEq, and_true]
                  have := g5.1.1
                  simp only at this
                  omega)
                have HT9 := Lib.hid (show P.take (k + 1 + 1) = hdL (n : Int) ra :: (R ++ [(⟨(n2 : Int), rb⟩ : Rw)]).map rwL by
                  rw [List.take_add_one, HLN.out, HTk.out, List.map_append, HLW.out]
                  rfl)
                clear hn2 hrb hln HR2 HLI HSL HCU q0 q1 q2 q3 k0 k1 k2 k3
                go_upto_region 21 with (fail)
                have hbT := Blk.new w7 #[.int .i64 rb.x, .int .i64 rb.y] 25
                have hqT : Below w7.heap.size w7 (w7.alloc (.cells #[.int .i64 rb.x, .int .i64 rb.y] 25)) := (Below.refl _ _).alloc (Nat.le_refl _) _
                have HBT := Lib.hid hbT
                have HS8 := Lib.hid (HS7.out.below hqT hg7)
                have HO8 := Lib.hid (own_below HO7.out hqT)
                have HB8 := Lib.hid (HB7.out.trans (hqT.mono (by have := HGR.out; omega)))
                have hg8 := HS8.out.lt
                have hgr := HGR.out
                clear hbT hqT HS7 HO7 HG7 HQ7 HB7 hg7 hgw
                generalize w7.alloc (.cells #[.int .i64 rb.x, .int .i64 rb.y] 25) = w8 at *
                generalize w7.heap.size = gV at HBT ⊢
                have x0 := HBT.out.cell 0
                have x1 := HBT.out.cell 1
                have s3 := HS8.out.cell 3
                simp at x0 x1 s3
                go_wp2_with (at_builtin; (refine wpList_append_keep _ rfl (.tmp 110) (.tmp 114) 26 rfl gR 46 i0 (.agg #[.int .i64 0, .int .i64 0, .int .i64 0]) 3 24 Tryz.underlying26 hi hz0 hz1 hz2 rfl (by omega) _ _ _ rfl HO8.out _ _ _ rfl rfl rfl (by omega) (by omega) (by omega) ?_; intro v' w9 hown' hb9 hkeep hsz9; obtain ⟨A9, q9, rfl⟩ := own_form hown'; obtain ⟨kb1, kb2⟩ := hkeep gS (by omega) HNk.out; have hB9 : Blk w9 gS #[.int .i64 (n : Int), .int .i64 ra.x, .int .i64 ra.y, rv] 28 := kb1.trans HS8.out; have z9 : w9.frozen? ⟨gS, 3, none⟩ = false := Blk.frozen hB9 3; have c9 : w9.cell? ⟨gS, 3, none⟩ = some rv := (Blk.cell hB9 3).trans rfl; have hbl9 : gS < w9.heap.size := Blk.lt hB9; have HOW := Lib.hid hown'; have HKB := Lib.hid kb2; have HB9 := Lib.hid (HB8.out.trans hb9); clear hkeep hown' kb2 hb9 kb1))
                go_roundw
                case rel => exact ⟨k + 1, R ++ [(⟨(n2 : Int), rb⟩ : Rw)], .slice A9 (k + 1) q9, by omega, by go_num, Lib.hid (hB9.set 3 _), Lib.hid (own_othP (by rw [rows_snoc]; exact HOW.out) HKB.out), HKB, Lib.hid (by rw [List.length_append, HRk.out]; rfl), HF9, HT9, Lib.hid (HB9.out.setCell (by (try dsimp only); omega) _)⟩
                case measure => simp [intOf]; omega
          · obtain rfl : k = R.length := HRk.out.symm
            have HFN := Lib.hid (show ∀ p s L, shOk p s L = true → shT p s L = t → (n : Int) = p ∧ ra = s ∧ R = L from fun p s L h e => by
              obtain ⟨f1, f2, f3⟩ := HF0.out p s L h e
              have f4 := HFk.out p s L h e
              exact ⟨f2, f1, by rw [f4, List.take_of_length_le (by have := HNN.out; omega)]⟩)
            have HTX := Lib.hid (show shT (n : Int) ra R = t by
              have e1 := HTk.out
              rw [List.take_of_length_le (by have := HNN.out; omega)] at e1
              rw [shT_lines, ← jn_spl 10 t, HP.out, e1]
              rfl)
            obtain ⟨Ar, cr, rfl⟩ := own_form HOk.out
            have hrl : R.length ≤ 1048576 := by omega
            have x0 := HSk.out.cell 0
            have x1 := HSk.out.cell 1
            have x2 := HSk.out.cell 2
            have x3 := HSk.out.cell 3
            simp at x0 x1 x2 x3
            have C3 := Lib.hid (IsSheet_any (n : Int) ra Ar cr R wr (Mem.of_own HOk.out) hrl)
            cases hok : shOk (n : Int) ra R
            · have HNO := Lib.hid (show ∀ p s L, shOk p s L = true → shT p s L ≠ t from fun p s L h e => by
                obtain ⟨f1, f2, f3⟩ := HFN.out p s L h e
                rw [← f1, ← f2, ← f3, hok] at h
                cases h)
              rw [hok] at C3
              clear hok
              go_wp2_with fail
              refine C3.out.mono ?_
              rintro e w6 ⟨rfl, hq⟩
              have HG6 := Lib.hid (HGk.out.below hq HGk.out.lt)
              have HQ6 := Lib.hid (Below.next hq HQk.out HQk.out.size)
              clear x0 x1 x2 x3 hq
              have q0 := HG6.out.cell 0
              have q1 := HG6.out.cell 1
              have q2 := HG6.out.cell 2
              have q3 := HG6.out.cell 3
              have k0 := HG6.out.frozen 0
              have k1 := HG6.out.frozen 1
              have k2 := HG6.out.frozen 2
              have k3 := HG6.out.frozen 3
              simp at q0 q1 q2 q3
              go_wp2
              exact bodyPost_ret (v := .tuple #[.agg #[.int .i64 0, .int .i64 0, .int .i64 0, .slice none 0 0], .bool false]) (by simp [results, Tryz.results17, go_sem, q0, q1, q2, q3]) rfl (RetPr.no HNO.out ((((HQ6.out.setCell HG.out _).setCell HG.out _).setCell HG.out _).setCell HG.out _))
            · have HOKK := Lib.hid hok
              rw [hok] at C3
              clear hok
              go_wp2_with fail
              refine C3.out.mono ?_
              rintro e w7 ⟨rfl, hq⟩
              have HG7 := Lib.hid (HGk.out.below hq HGk.out.lt)
              have HQ7 := Lib.hid (Below.next hq HQk.out HQk.out.size)
              have HO7 := Lib.hid (own_below HOk.out hq)
              have HNG := Lib.hid (show (Value.slice Ar R.length cr).ownBlock ≠ some g from fun e => by have := (HOk.out.lt _ e).1; omega)
              have y0 := keep1 hq x0
              have y1 := keep1 hq x1
              have y2 := keep1 hq x2
              have y3 := keep1 hq x3
              clear x0 x1 x2 x3 hq
              have q0 := HG7.out.cell 0
              have q1 := HG7.out.cell 1
              have q2 := HG7.out.cell 2
              have q3 := HG7.out.cell 3
              have k0 := HG7.out.frozen 0
              have k1 := HG7.out.frozen 1
              have k2 := HG7.out.frozen 2
              have k3 := HG7.out.frozen 3
              simp at q0 q1 q2 q3
              go_wp2
              exact bodyPost_ret (v := .tuple #[.agg #[.int .i64 (n : Int), .int .i64 ra.x, .int .i64 ra.y, .slice Ar R.length cr], .bool true]) (by simp [results, Tryz.results17, go_sem, q0, q1, q2, q3]) rfl (RetPr.yes HOKK.out HTX.out (fun p s L h e => ⟨(HFN.out p s L h e).1.symm, (HFN.out p s L h e).2.1.symm, (HFN.out p s L h e).2.2.symm⟩) (own_othP (own_othP (own_othP (own_othP HO7.out HNG.out) HNG.out) HNG.out) HNG.out) rfl (by omega) ((((HQ7.out.setCell HG.out _).setCell HG.out _).setCell HG.out _).setCell HG.out _))
end Go.Proofs.YtdmgffcabjpihaaGreatDoor
