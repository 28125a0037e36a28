/-
  The program's first least cover: the walk.
-/
import Derived.Test.YthppancpecjegaaAcn
import Derived.BigQuiet
namespace Go.Proofs.Ythppancpecjegaa
open Go.RowKit
open Go.Sort (grow)

def LcRel (c : Nat → Nat → Int) (q m P : Nat) (w2 : World) (iv : Value) (wr : World) : Prop := ∃ k : Nat, k ≤ m + 1 ∧ iv = .int .i64 ((k : Int) - 1) ∧ BstE wr c q m P w2.heap.size k ∧ Below w2.heap.size w2 wr
set_option maxRecDepth 100000 in
set_option maxHeartbeats 12800000 in
theorem leastCover_any (A : Option Addr) (c : Nat) (L : List Sp) (B : Option Addr) (d : Nat) (a : List Int) (C : Option Addr) (f : Nat) (n : List Int) (w : World) (hm : Mem w A (spots L)) (ha : Mem w B (ints a)) (hn : Mem w C (ints n)) (hl : L.length ≤ 1048576) (hl2 : a.length ≤ 1048576) (hl3 : n.length ≤ 1048576) (hok : abOk L a n = true) : Calls Try.prog 46 #[.slice A L.length c, .slice B a.length d, .slice C n.length f] w (RetInts3 w (lcL L a n) (lcN L a n) (lcA L a n)) := by
  obtain ⟨i0, hi, hz0, hz1, hz2⟩ := info_parts info_int
  obtain ⟨i1, gi, gz0, gz1, gz2⟩ := info_parts info_intss
  have hlen := ab_lens hok
  have HG := Lib.hid (ch_all (abOk_iff.1 hok).1)
  have HOP := Lib.hid (fun k x hx => op_nat (L := L) (a := a) (n := n) (k := k) (x := x) hok hx)
  have HSP := Lib.hid (show ∀ k x, (spares L.length a n)[k]? = some x → ∃ y : Nat, x = (y : Int) ∧ y < L.length from fun k x hx => by have := spares_mem (List.mem_of_getElem? hx); exact nat_of this.1 this.2)
  have hol := opens_len a n
  have hsl := spares_len L.length a n
  have HLL := Lib.hid (show lcL L a n = if lcA L a n then lcV L (opens a n) (spares L.length a n) else [] from rfl)
  have HLN := Lib.hid (show lcN L a n = if lcA L a n then lcSum L (opens a n) (spares L.length a n) else 0 from rfl)
  have HLA := Lib.hid (show lcA L a n = decide ((opens a n).length ≤ (spares L.length a n).length) from rfl)
  have hcst := cst_bd (L := L) (op := opens a n) (sp := spares L.length a n) HG.out (fun x hx => by obtain ⟨k, hk⟩ := List.mem_iff_getElem?.1 hx; obtain ⟨y, rfl, hy⟩ := HOP.out k x hk; omega) (fun x hx => by obtain ⟨k, hk⟩ := List.mem_iff_getElem?.1 hx; obtain ⟨y, rfl, hy⟩ := HSP.out k x hk; omega)
  clear hok
  go_enter Try.func46, Try.ntmps46
  go_wp2_with fail
  refine (openSpots_any _ _ a _ _ n _ ha hn hl2 hl3).mono ?_
  rintro e w1 ⟨A1, c1, rfl, ho1, hq1⟩
  go_wp2_with fail
  refine (sparePerformers_any L.length _ _ a _ _ n _ (ha.below hq1) (hn.below hq1) hl hl2 hl3).mono ?_
  rintro e w2 ⟨A2, c2, rfl, ho2, hq2⟩
  have hb1 : Below w.heap.size w w2 := hq1.trans (hq2.mono hq1.size)
  have HO1 := Lib.hid (Mem.below (Mem.of_own ho1) hq2)
  have HO2 := Lib.hid (Mem.of_own ho2)
  have HM := Lib.hid (hm.below hb1)
  have HB1 := Lib.hid hb1
  have zz := hb1.size
  clear ho1 ho2 hq1 hq2 hm ha hn hb1
  generalize opens a n = op at *
  generalize spares L.length a n = sp at *
  by_cases h1 : op.length ≤ sp.length
  case neg =>
    have h1' : (sp.length : Int) < (op.length : Int) := by omega
    have HA := Lib.hid (show lcA L a n = false by rw [HLA.out]; simpa using h1)
    go_wp2_with fail
    go_ret3
    exact RetInts3.none_ (by rw [HLL.out, HA.out]; rfl) (by rw [HLN.out, HA.out]; rfl) HA.out HB1.out
  have HA := Lib.hid (show lcA L a n = true by rw [HLA.out]; simpa using h1)
  have h1' : ¬ (sp.length : Int) < (op.length : Int) := by omega
  have HVV := Lib.hid (show lcV L op sp = (lcS (cst L op sp) sp.length op.length op.length).2.map (fun k => sp.getD k.toNat 0) from rfl)
  have HVS := Lib.hid (show lcSum L op sp = bst (cst L op sp) sp.length op.length op.length 0 from rfl)
  obtain ⟨m, hmm⟩ : ∃ m, op.length = m := ⟨_, rfl⟩
  obtain ⟨q, hqq⟩ : ∃ q, sp.length = q := ⟨_, rfl⟩
  rw [hmm] at h1 h1' hol hcst HVV HVS ⊢
  rw [hqq] at h1 h1' hsl hcst HVV HVS ⊢
  have hq12 : q ≤ 12 := by omega
  have HMM := Lib.hid hmm
  have HQQ := Lib.hid hqq
  have HH1 := Lib.hid h1
  obtain ⟨cc, hcc⟩ : ∃ cc, cst L op sp = cc := ⟨_, rfl⟩
  rw [hcc] at hcst HVV HVS
  have HCC := Lib.hid hcc
  have HCB := Lib.hid hcst
  obtain ⟨P, hP⟩ : ∃ P : Nat, 2 ^ q = P := ⟨_, rfl⟩
  have hp := Nat.pow_le_pow_right (show 0 < 2 by omega) hq12
  have hp1 : 1 ≤ 2 ^ q := Nat.one_le_two_pow
  rw [hP] at hp hp1
  have hP12 : P ≤ 4096 := hp
  have hw : wrap64 ((2 : Int) ^ q) = (P : Int) := by rw [pow_cast, hP]; exact wrap_nat (by omega)
  have HW := Lib.hid hw
  have HP := Lib.hid hP
  clear hmm hqq hcst hcc hw hP hp
  obtain ⟨M1, hM1⟩ : ∃ M1, M1 = m + 1 := ⟨_, rfl⟩
  have HM1 := Lib.hid (show (m : Int) + 1 = (M1 : Int) by omega)
  have hM12 : M1 ≤ 13 := by omega
  go_wp2_with fail
  rw [HM1.out]
  refine upon_make _ 85 23 i1 (.slice none 0 0) 1 Try.underlying85 gi gz0 gz1 _ M1 (by rw [gz2]; omega) (by unfold maxLen; omega) ?_
  intro w3 ho3 hg3
  have hq3 := grown_below hg3
  have HT := Lib.hid (show Blk w3 w2.heap.size (hdr m P (m + 1) (fun _ => 0)).toArray 23 by
    subst hM1
    have := own_blk ho3 (by omega)
    rwa [show (Value.slice none 0 0).cells = #[Value.slice none 0 0] from rfl, made_hdr (P := P) (gs := fun _ => 0)] at this)
  have HB3 := Lib.hid hq3
  have zz3 := hq3.size
  clear ho3 hg3 hq3
  go_wp2
  go_loopw [12, 13, 14, 15] (fun iv _ _ _ wr => LcRel cc q m P w2 iv wr) (fun iv _ _ _ _ => (intOf iv + 1).toNat)
  case atStart => exact ⟨m + 1, by omega, by congr 1; omega, ⟨fun _ => 0, HT.out, fun j h1 h2 => by omega⟩, HB3.out⟩
  case round =>
    obtain ⟨k, hk, rfl, hE, hb⟩ := hrel
    obtain ⟨W1, hW1⟩ : ∃ x, x = wr := ⟨wr, rfl⟩
    subst hW1
    have HE := Lib.hid hE
    have HBR := Lib.hid hb
    have zz4 := hb.size
    clear hE hb
    rcases Nat.eq_zero_or_pos k with hk0 | hk0
    · subst hk0
      rw [show ((0 : Nat) : Int) - 1 = -1 by omega]
      obtain ⟨gs, hT, hR⟩ := HE.out
      have HT1 := Lib.hid hT
      have HR1 := Lib.hid hR
      clear hT hR
      go_wp2
      go_loopw [16, 17, 125] (fun tv mv iv wr => ∃ i : Nat, i ≤ m ∧ iv = .int .i64 i ∧ tv = .int .i64 (lcS cc q m i).1 ∧ wr.ownsRow W1.heap.size 3 1 mv i (ints ((lcS cc q m i).2.map fun k => sp.getD k.toNat 0)) ∧ Below W1.heap.size W1 wr) (fun _ _ iv _ => m - (intOf iv).toNat)
      case atStart => exact ⟨0, by omega, rfl, rfl, own_empty _ _ rfl (Nat.le_refl _) rfl, (Below.refl _ _).alloc (Nat.le_refl _) _⟩
      case round =>
        obtain ⟨i, hi1, rfl, rfl, hown, hb⟩ := hrel
        obtain ⟨W2, hW2⟩ : ∃ x, x = wr := ⟨wr, rfl⟩
        subst hW2
        have HO := Lib.hid hown
        have HB6 := Lib.hid hb
        have zz5 := hb.size
        clear hown hb
        by_cases him : i < m
        · obtain ⟨y, hy⟩ := some_of_lt (L := op) (k := i) (by have := HMM.out; omega)
          obtain ⟨b1, o1, rfl, e1⟩ := (HO1.out.below (HBR.out.trans (HB6.out.mono zz4))).int hy
          obtain ⟨y, rfl, hyl⟩ := HOP.out i y hy
          have HY := Lib.hid hy
          have htlt := lcS_lt HH1.out hq12 HCB.out (Nat.le_of_lt him)
          rw [HP.out] at htlt
          have HYES := Lib.hid (lcB_yes HH1.out hq12 HCB.out him)
          have HNEXT := Lib.hid (show lcS cc q m (i + 1) = ((lcS cc q m i).1 ||| 2 ^ (lcB cc q m i (lcS cc q m i).1 q).toNat, (lcS cc q m i).2 ++ [lcB cc q m i (lcS cc q m i).1 q]) from rfl)
          obtain ⟨t, hts⟩ : ∃ t, (lcS cc q m i).1 = t := ⟨_, rfl⟩
          rw [hts] at htlt HYES HNEXT ⊢
          clear hy hts
          go_wp2
          clear e1
          go_loopw [16, 17, 132] (fun tv mv kv wr => ∃ k : Nat, k ≤ q ∧ kv = .int .i64 k ∧ tv = .int .i64 t ∧ mv = u17 ∧ lcB cc q m i t k < 0 ∧ Below W2.heap.size W2 wr) (fun _ _ kv _ => q - (intOf kv).toNat)
          case atStart => exact ⟨0, by omega, rfl, rfl, rfl, by rw [lcB]; omega, Below.refl _ _⟩
          case round =>
            obtain ⟨k, hk, rfl, rfl, rfl, hneg, hb⟩ := hrel
            have HN := Lib.hid hneg
            have HB7 := Lib.hid hb
            have zz6 := hb.size
            clear hneg hb
            have hb1 : Below W1.heap.size W1 wr := HB6.out.trans (HB7.out.mono zz5)
            have hb2 : Below w2.heap.size w2 wr := HBR.out.trans (hb1.mono zz4)
            by_cases hkq : k < q
            · obtain ⟨z, hz⟩ := some_of_lt (L := sp) (k := k) (by have := HQQ.out; omega)
              obtain ⟨b2, o2, rfl, e2⟩ := (HO2.out.below hb2).int hz
              obtain ⟨z, rfl, hzl⟩ := HSP.out k z hz
              have ht62 : t < 4611686018427387904 := by omega
              obtain ⟨s, hs1⟩ := some_of_lt hzl
              obtain ⟨u, hu1⟩ := some_of_lt hyl
              obtain ⟨b, off, rfl, e3, e4⟩ := (HM.out.below hb2).spot hs1
              obtain ⟨b', off', e5, e6, e7⟩ := (HM.out.below hb2).spot hu1
              obtain ⟨rfl, rfl⟩ : b = b' ∧ off = off' := by simpa using e5
              cases htb : t.testBit k
              · have hbit := bit_no ht62 htb
                have hbit2 : bits .and .i64 ((t : Int) / 2 ^ min (IntKind.u64.wrap (k : Int)).toNat 64) 1 = 0 := by rw [raw_min (by omega)]; exact hbit
                have hxP : t ||| 2 ^ k < P := by rw [← HP.out]; exact or_lt (by rw [HP.out]; exact htlt) hkq
                have hor := bit_or (U := t) (x := k) ht62 (by omega)
                have hraw := raw_shift (k := k) (by omega)
                have hor2 : bits .or .i64 (t : Int) (IntKind.i64.wrap (2 ^ min (IntKind.u64.wrap (k : Int)).toNat 64)) = ((t ||| 2 ^ k : Nat) : Int) := by rw [hraw]; exact hor
                have htv := bst_bd HCB.out (m - (i + 1)) (t ||| 2 ^ k) (by omega)
                have htw := bst_bd HCB.out (m - i) t (by omega)
                have hck := HCB.out i k him hkq
                have ev := bTo_at (c := cc) (q := q) (m := m) (r := m - (i + 1)) hxP
                have ew := bTo_at (c := cc) (q := q) (m := m) (r := m - i) htlt
                have HTB := Lib.hid htb
                have HFND := Lib.hid (fun h => lcB_found (c := cc) (m := m) hkq HN.out htb h)
                have HPASS := Lib.hid (fun (h : ¬ (cc i k + bst cc q m (m - (i + 1)) (t ||| 2 ^ k) = bst cc q m (m - i) t)) => lcB_pass (c := cc) (m := m) (n := q) (i := i) (t := t) (k := k) HN.out (fun h' => h h'.2))
                obtain ⟨x, hx⟩ : ∃ x, t ||| 2 ^ k = x := ⟨_, rfl⟩
                rw [hx] at hxP hor hor2 htv ev HFND HPASS
                obtain ⟨tv, htve⟩ : ∃ v, bst cc q m (m - (i + 1)) x = v := ⟨_, rfl⟩
                rw [htve] at htv ev HFND HPASS
                obtain ⟨tw, htwe⟩ : ∃ v, bst cc q m (m - i) t = v := ⟨_, rfl⟩
                rw [htwe] at htw ew HFND HPASS
                have hsg := all_at HG.out hs1
                have hug := all_at HG.out hu1
                have hcv : cc i k = sq s u := by rw [← HCC.out]; exact cst_at HY.out hz hs1 hu1
                rw [hcv] at hck HFND HPASS
                have hT8 := HT1.out.below hb1 HT1.out.lt
                have g1 := (hT8.cell i).trans (hdr_at (Nat.le_of_lt him) (Nat.zero_le _))
                have g2 := (hT8.cell (i + 1)).trans (hdr_at (show i + 1 ≤ m by omega) (Nat.zero_le _))
                have R1 := (HR1.out (i + 1) (Nat.zero_le _) (by omega)).2
                have R0 := (HR1.out i (Nat.zero_le _) (by omega)).2
                have g3 := blk_int (R1.below hb1 R1.lt) ev
                have g4 := blk_int (R0.below hb1 R0.lt) ew
                obtain ⟨gx, hgx⟩ : ∃ v, gs (i + 1) = v := ⟨_, rfl⟩
                rw [hgx] at g2 g3
                obtain ⟨gy, hgy⟩ : ∃ v, gs i = v := ⟨_, rfl⟩
                rw [hgy] at g1 g4
                have k1 := cell_regrown (w := wr) e2
                have k3 := cell_regrown (w := wr) e3
                have k4 := cell_regrown (w := wr) e4
                have k6 := cell_regrown (w := wr) e6
                have k7 := cell_regrown (w := wr) e7
                have m1 := cell_regrown (w := wr) g1
                have m2 := cell_regrown (w := wr) g2
                have m3 := cell_regrown (w := wr) g3
                have m4 := cell_regrown (w := wr) g4
                have cl : ∀ t v : Sp, isSp t = true → isSp v = true → ∀ dd os, Calls Try.prog 52 #[.agg #[.int .i64 t.x, .int .i64 t.y], .agg #[.int .i64 v.x, .int .i64 v.y]] (grow (redrawn wr dd) os) fun e w'' => e = .returned (.int .i64 (sq t v)) ∧ ∃ p : Regrown, w'' = grow (redrawn wr p.d) p.os :=
                  fun t v ht hv dd os => Calls.regrown_of ((squareOf_any t v ht hv _).mono (by rintro e w' ⟨rfl, o1, o2, rfl⟩; exact ⟨rfl, ((Below.refl _ _).alloc (Nat.le_refl _) _).alloc (by simp) _⟩))
                have C1 := Lib.hid cl
                have HBB := Lib.hid hb1
                have hsum : IntKind.i64.wrap (sq s u + tv) = sq s u + tv := IntWalk.i64_in _ (by omega)
                have hi1' : (i : Int) + 1 < (M1 : Int) := by omega
                have hiw : IntKind.i64.wrap ((i : Int) + 1) = ((i + 1 : Nat) : Int) := IntWalk.i64_in _ (by omega)
                have HSP2 := Lib.hid (show sp.getD k 0 = (z : Int) by simp [List.getD, hz])
                have HX := Lib.hid hx
                clear hz hs1 hu1 e5 cl hb2 htb hraw htve htwe hcv hT8 R1 R0 hgx hgy ev ew hb1 hx
                by_cases he : sq s u + tv = tw
                · have hc1 : (sq s u + tv == tw) = true := by simp [he]
                  have HF := Lib.hid (HFND.out he)
                  clear he
                  go_wp2_with fail
                  refine wp_region_quiet_below (by kernel_rfl) (by kernel_rfl) ?_
                  repeat (first | go_big_quiet_step (exact C1.out _ _ (by assumption) (by assumption) _ _) | quiet_step (exact C1.out _ _ (by assumption) (by assumption) _ _))
                  refine wpQuiet_nil ?_
                  intro _ hw'
                  obtain ⟨⟨dq, osq⟩, hw''⟩ := hw'
                  subst hw''
                  have hb5 := below_regrown wr dq osq
                  have HO5 := Lib.hid (own_below (own_below HO.out HB7.out) hb5)
                  have HB9 := Lib.hid (HBB.out.trans (hb5.mono HBB.out.size))
                  have zz9 := HB9.out.size
                  have HN2 := Lib.hid (show lcS cc q m (i + 1) = (x, (lcS cc q m i).2 ++ [(k : Int)]) by rw [HNEXT.out, HF.out]; show (t ||| 2 ^ k, _) = _; rw [HX.out])
                  have HMP := Lib.hid (show ((lcS cc q m i).2 ++ [(k : Int)]).map (fun k => sp.getD k.toNat 0) = (lcS cc q m i).2.map (fun k => sp.getD k.toNat 0) ++ [(z : Int)] by rw [List.map_append]; show _ ++ [sp.getD (k : Int).toNat 0] = _; rw [Int.toNat_natCast, HSP2.out])
                  clear k1 k3 k4 k6 k7 m1 m2 m3 m4 e2 e3 e4 e6 e7 g1 g2 g3 g4 hb5
                  generalize grow (redrawn wr dq) osq = w9 at *
                  go_wp2_with (at_builtin; refine wpList_append_one _ rfl (.tmp 173) (.tmp 175) 23 rfl W1.heap.size 3 i0 (.int .i64 0) 1 8 Try.underlying23 hi hz0 hz1 hz2 rfl (by omega) _ _ _ rfl HO5.out _ _ _ rfl rfl rfl (by omega) (by omega) (by omega) ?_; intro v' w7 hown' hb7)
                  go_roundw
                  case rel => exact ⟨i + 1, by omega, by go_num, by rw [HN2.out], by rw [HN2.out, HMP.out, ints_snoc]; exact hown', HB9.out.trans hb7⟩
                  case measure => simp [intOf]; omega
                · have hc1 : (sq s u + tv == tw) = false := beq_eq_false_iff_ne.2 he
                  have HF := Lib.hid (HPASS.out he)
                  clear he
                  go_wp2_with fail
                  refine wp_region_quiet_below (by kernel_rfl) (by kernel_rfl) ?_
                  repeat (first | go_big_quiet_step (exact C1.out _ _ (by assumption) (by assumption) _ _) | quiet_step (exact C1.out _ _ (by assumption) (by assumption) _ _))
                  refine wpQuiet_nil ?_
                  intro _ hw'
                  obtain ⟨⟨dq, osq⟩, hw''⟩ := hw'
                  subst hw''
                  have hb5 := below_regrown wr dq osq
                  clear k1 k3 k4 k6 k7 m1 m2 m3 m4 e2 e3 e4 e6 e7 g1 g2 g3 g4
                  generalize grow (redrawn wr dq) osq = w9 at *
                  go_wp2
                  go_roundw
                  case rel => first | exact ⟨k + 1, by omega, by go_num, rfl, rfl, HF.out, HB7.out.trans (hb5.mono zz6)⟩ | exact ⟨k + 1, by omega, by go_num, HF.out, HB7.out.trans (hb5.mono zz6)⟩
                  case measure => simp [intOf]; omega
              · have hbit := bit_yes ht62 htb
                have hbit2 : bits .and .i64 ((t : Int) / 2 ^ min (IntKind.u64.wrap (k : Int)).toNat 64) 1 = 1 := by rw [raw_min (by omega)]; exact hbit
                have HF := Lib.hid (lcB_pass (c := cc) (m := m) (n := q) (i := i) (t := t) (k := k) HN.out (fun h' => by rw [htb] at h'; exact absurd h'.1 (by simp)))
                clear htb hz hs1 hu1 hb2 hb1 e3 e4 e5 e6 e7
                go_wp2_with fail
                refine wp_region_quiet_below (by kernel_rfl) (by kernel_rfl) ?_
                repeat (first | go_big_quiet_step (fail) | quiet_step (fail))
                refine wpQuiet_nil ?_
                intro _ hw'
                obtain ⟨⟨dq, osq⟩, hw''⟩ := hw'
                subst hw''
                have hb5 := below_regrown wr dq osq
                clear e2
                generalize grow (redrawn wr dq) osq = w9 at *
                go_wp2
                go_roundw
                case rel => first | exact ⟨k + 1, by omega, by go_num, rfl, rfl, HF.out, HB7.out.trans (hb5.mono zz6)⟩ | exact ⟨k + 1, by omega, by go_num, HF.out, HB7.out.trans (hb5.mono zz6)⟩
                case measure => simp [intOf]; omega
            · obtain rfl : k = q := by omega
              exact absurd HN.out (by have := HYES.out; omega)
        · obtain rfl : i = m := by omega
          have hT8 := HT1.out.below HB6.out HT1.out.lt
          have g1 := (hT8.cell 0).trans (hdr_at (Nat.zero_le _) (Nat.zero_le _))
          have R0 := (HR1.out 0 (Nat.zero_le _) (Nat.zero_le _)).2
          have g2 := blk_int (R0.below HB6.out R0.lt) (bTo_at (c := cc) (q := q) (m := i) (r := i - 0) (show 0 < P by omega))
          rw [Nat.sub_zero] at g2
          obtain ⟨gy, hgy⟩ : ∃ v, gs 0 = v := ⟨_, rfl⟩
          rw [hgy] at g1 g2
          obtain ⟨tv, htve⟩ : ∃ v, bst cc q i i 0 = v := ⟨_, rfl⟩
          rw [htve] at g2 HVS
          clear hT8 R0 hgy htve
          have hM10 : (0 : Int) < (M1 : Int) := by omega
          have hP10 : (0 : Int) < (P : Int) := by omega
          go_wp2
          go_quiet (fail)
          go_wp2
          go_ret3
          refine RetInts3.some_ HA.out ?_ ?_ (own_below HO.out (Below.drewN (Below.refl _ _) _)) ?_ (show w.heap.size ≤ W1.heap.size by omega) (Below.drewN (HB1.out.trans ((HBR.out.trans (HB6.out.mono zz4)).mono zz)) _)
          · rw [HLL.out, HA.out, if_pos rfl, HVV.out]
          · rw [HLN.out, HA.out, if_pos rfl, HVS.out]
          · rw [List.length_map, lcS_len]
    · obtain ⟨i, rfl⟩ : ∃ i, k = i + 1 := ⟨k - 1, by omega⟩
      rw [show ((i + 1 : Nat) : Int) - 1 = (i : Int) by omega]
      have him : i ≤ m := by omega
      have hiM : i < M1 := by omega
      obtain ⟨gs, hT, hR⟩ := HE.out
      have HT1 := Lib.hid hT
      have HR1 := Lib.hid hR
      clear hT hR
      go_wp2_with fail
      rw [HW.out]
      refine upon_make _ 23 3 i0 (.int .i64 0) 1 Try.underlying23 hi hz0 hz1 _ P (by rw [hz2]; omega) (by unfold maxLen; omega) ?_
      intro w4 ho4 hg4
      have hq4 := grown_below hg4
      have hgb : w2.heap.size < W1.heap.size := HT1.out.lt
      have hN4 : Blk w4 W1.heap.size (ints (zeros P)).toArray 3 := own_blk (made_row W1.heap.size ho4 rfl) (by omega)
      have hT4 : Blk w4 w2.heap.size _ _ := HT1.out.below hq4 hgb
      have hT5 := hT4.set i (.slice (some ⟨W1.heap.size, 0, none⟩) P P)
      rw [hdr_set] at hT5
      have c4 := (hT4.cell i).trans (hdr_nil him (by omega))
      have z4 := hT4.frozen i
      have c5 := (hT5.cell i).trans (hdr_at him (Nat.le_refl _))
      simp only [if_true] at c5
      have HT5 := Lib.hid hT5
      have HN5 := Lib.hid (hN4.other (j := i) (show W1.heap.size ≠ w2.heap.size by omega) (.slice (some ⟨W1.heap.size, 0, none⟩) P P))
      have HR5 := Lib.hid (show ∀ j, i + 1 ≤ j → j ≤ m → gs j ≠ w2.heap.size ∧ gs j < W1.heap.size ∧ Blk (w4.setCell ⟨w2.heap.size, i, none⟩ (.slice (some ⟨W1.heap.size, 0, none⟩) P P)) (gs j) (ints (bTo cc q m (m - j) P P)).toArray 3 from fun j h1 h2 => ⟨(HR1.out j h1 h2).1, (HR1.out j h1 h2).2.lt, ((HR1.out j h1 h2).2.below hq4 (HR1.out j h1 h2).2.lt).other (HR1.out j h1 h2).1 _⟩)
      have HB5 := Lib.hid (show Below w2.heap.size w2 (w4.setCell ⟨w2.heap.size, i, none⟩ (.slice (some ⟨W1.heap.size, 0, none⟩) P P)) from (HBR.out.trans (hq4.mono zz4)).setCell (Nat.le_refl _) _)
      clear ho4 hg4 hq4 hN4 hT4 hT5
      by_cases hem : i = m
      · subst hem
        have hie : ((i : Int) == (i : Int)) = true := by simp
        go_wp2
        clear c4 z4 c5
        generalize w4.setCell ⟨w2.heap.size, i, none⟩ (.slice (some ⟨W1.heap.size, 0, none⟩) P P) = w5 at *
        go_roundw
        case rel =>
          refine ⟨i, by omega, by first | rfl | (congr 1; done) | (congr 1; go_num), BstO.more HT5.out hgb (fun j h1 h2 => by omega) ?_, HB5.out⟩
          rw [Nat.sub_self, bTo_last]
          exact HN5.out
        case measure => first | (simp [intOf]; done) | (simp [intOf]; omega)
      · have hie : ((i : Int) == (m : Int)) = false := beq_eq_false_iff_ne.2 (by omega)
        go_wp2
        clear c4 z4 c5
        generalize w4.setCell ⟨w2.heap.size, i, none⟩ (.slice (some ⟨W1.heap.size, 0, none⟩) P P) = w5 at *
        have him2 : i + 1 ≤ m := by omega
        obtain ⟨r, hr⟩ : ∃ r, m - i = r + 1 := ⟨m - i - 1, by omega⟩
        have hmr : m - (r + 1) = i := by omega
        have hmr2 : m - (i + 1) = r := by omega
        have HBS := Lib.hid (fun t (h : t < P) => bTo_succ (c := cc) (q := q) (m := m) (r := r) (t := t) (P := P))
        rw [hmr] at HBS
        obtain ⟨gb, hgbe⟩ : ∃ gb, w2.heap.size = gb := ⟨_, rfl⟩
        obtain ⟨g, hge⟩ : ∃ g, W1.heap.size = g := ⟨_, rfl⟩
        have HGB := Lib.hid hgbe
        rw [hge] at hgb HT5 HN5 HR5 ⊢
        rw [hgbe] at hgb HT5 HR5 ⊢
        have zz5 := HB5.out.size
        have hgw : g < w5.heap.size := HN5.out.lt
        have hwg : w2.heap.size < g := by omega
        clear hgbe
        go_loopw [13, 61] (fun _ tv wr => ∃ t : Nat, t ≤ P ∧ tv = .int .i64 t ∧ Blk wr g (ints (bTo cc q m (r + 1) t P)).toArray 3 ∧ Below g w5 wr) (fun _ tv _ => P - (intOf tv).toNat)
        case atStart => exact ⟨0, by omega, rfl, by rw [bTo_zero]; exact HN5.out, Below.refl _ _⟩
        case round =>
          obtain ⟨t, ht, rfl, hN, hb⟩ := hrel
          obtain ⟨W2, hW2⟩ : ∃ x, x = wr := ⟨wr, rfl⟩
          subst hW2
          have HN6 := Lib.hid hN
          have HB6 := Lib.hid hb
          clear hN hb
          have hT6 := HT5.out.below HB6.out hgb
          by_cases htP : t < P
          · have e1 := (hT6.cell i).trans (hdr_at him (Nat.le_refl _))
            simp only [if_true] at e1
            have e2 := blk_int HN6.out (show (bTo cc q m (r + 1) t P)[t]? = some 0 by simp [bTo, htP])
            have z2 := HN6.out.frozen t
            clear hT6
            go_wp2
            clear e1 e2 z2
            have hN7 := blk_set (k := t) HN6.out 1099511627776
            have hB7 : Below g w5 (W2.setCell ⟨g, t, none⟩ (.int .i64 1099511627776)) := HB6.out.setCell (Nat.le_refl _) _
            generalize W2.setCell ⟨g, t, none⟩ (.int .i64 1099511627776) = w7 at *
            have HN7 := Lib.hid hN7
            have HB7 := Lib.hid hB7
            clear hN7 hB7
            go_loopw [14, 15, 72] (fun _ _ kv wr => ∃ k : Nat, k ≤ q ∧ kv = .int .i64 k ∧ Blk wr g (ints ((bTo cc q m (r + 1) t P).set t (mnB (fun k => cc i k + bst cc q m r (t ||| 2 ^ k)) t k))).toArray 3 ∧ Below g w5 wr) (fun _ _ kv _ => q - (intOf kv).toNat)
            case atStart => exact ⟨0, by omega, rfl, HN7.out, HB7.out⟩
            case round =>
              obtain ⟨k, hk, rfl, hN, hb⟩ := hrel
              have HN8 := Lib.hid hN
              have HB8 := Lib.hid hb
              clear hN hb
              have hb2 : Below w2.heap.size w2 wr := HB5.out.trans (HB8.out.mono (Nat.le_of_lt hwg))
              by_cases hkq : k < q
              · obtain ⟨z, hz⟩ := some_of_lt (L := sp) (k := k) (by have := HQQ.out; omega)
                obtain ⟨b2, o2, rfl, e2⟩ := (HO2.out.below hb2).int hz
                obtain ⟨z, rfl, hzl⟩ := HSP.out k z hz
                have ht62 : t < 4611686018427387904 := by omega
                cases htb : t.testBit k
                · have hbit := bit_no ht62 htb
                  have HM2 := Lib.hid (show mnB (fun k => cc i k + bst cc q m r (t ||| 2 ^ k)) t (k + 1) = min (mnB (fun k => cc i k + bst cc q m r (t ||| 2 ^ k)) t k) (cc i k + bst cc q m r (t ||| 2 ^ k)) by rw [mnB, htb]; rfl)
                  have hxP : t ||| 2 ^ k < P := by rw [← HP.out]; exact or_lt (by rw [HP.out]; exact htP) hkq
                  have hor := bit_or (U := t) (x := k) ht62 (by omega)
                  have hraw := raw_shift (k := k) (by omega)
                  have hor2 : bits .or .i64 (t : Int) (IntKind.i64.wrap (2 ^ min (IntKind.u64.wrap (k : Int)).toNat 64)) = ((t ||| 2 ^ k : Nat) : Int) := by rw [hraw]; exact hor
                  have hmv0 := mnB_bd (g := fun k => cc i k + bst cc q m r (t ||| 2 ^ k)) (t := t) (k := k) (fun j hj => by
                    have := (HCB.out i j (by omega) (by omega)).1
                    have := (bst_bd HCB.out r (t ||| 2 ^ j) (by omega)).1
                    omega)
                  have htv := bst_bd HCB.out r (t ||| 2 ^ k) (by omega)
                  have hck := HCB.out i k (by omega) hkq
                  have ev := bTo_at (c := cc) (q := q) (m := m) (r := r) hxP
                  obtain ⟨x, hx⟩ : ∃ x, t ||| 2 ^ k = x := ⟨_, rfl⟩
                  obtain ⟨mv, hmv⟩ : ∃ v, mnB (fun k => cc i k + bst cc q m r (t ||| 2 ^ k)) t k = v := ⟨_, rfl⟩
                  rw [hmv] at hmv0 HM2 HN8
                  rw [hx] at hxP hor hor2 htv ev HM2
                  obtain ⟨tv, htve⟩ : ∃ v, bst cc q m r x = v := ⟨_, rfl⟩
                  rw [htve] at htv ev HM2
                  obtain ⟨y, hy⟩ := some_of_lt (L := op) (k := i) (by have := HMM.out; omega)
                  obtain ⟨b1, o1, rfl, e1⟩ := (HO1.out.below hb2).int hy
                  obtain ⟨y, rfl, hyl⟩ := HOP.out i y hy
                  obtain ⟨s, hs1⟩ := some_of_lt hzl
                  obtain ⟨u, hu1⟩ := some_of_lt hyl
                  obtain ⟨b, off, rfl, e3, e4⟩ := (HM.out.below hb2).spot hs1
                  obtain ⟨b', off', e5, e6, e7⟩ := (HM.out.below hb2).spot hu1
                  obtain ⟨rfl, rfl⟩ : b = b' ∧ off = off' := by simpa using e5
                  have hsg := all_at HG.out hs1
                  have hug := all_at HG.out hu1
                  have hcv : cc i k = sq s u := by rw [← HCC.out]; exact cst_at hy hz hs1 hu1
                  rw [hcv] at hck HM2
                  have hT8 := HT5.out.below HB8.out hgb
                  have g1 := (hT8.cell i).trans (hdr_at him (Nat.le_refl _))
                  simp only [if_true] at g1
                  have g2 := (hT8.cell (i + 1)).trans (hdr_at him2 (by omega))
                  simp only [show ¬ i + 1 = i by omega, if_false] at g2
                  have R1 := HR5.out (i + 1) (Nat.le_refl _) him2
                  rw [hmr2] at R1
                  have g3 := blk_int (R1.2.2.below HB8.out R1.2.1) ev
                  have g4 := blk_int (x := mv) HN8.out (show ((bTo cc q m (r + 1) t P).set t mv)[t]? = some mv by rw [List.getElem?_set_self (by simp [bTo, htP])])
                  obtain ⟨gx, hgx⟩ : ∃ v, gs (i + 1) = v := ⟨_, rfl⟩
                  rw [hgx] at g2 g3
                  have k1 := cell_regrown (w := wr) e1
                  have k2 := cell_regrown (w := wr) e2
                  have k3 := cell_regrown (w := wr) e3
                  have k4 := cell_regrown (w := wr) e4
                  have k6 := cell_regrown (w := wr) e6
                  have k7 := cell_regrown (w := wr) e7
                  have m1 := cell_regrown (w := wr) g1
                  have m2 := cell_regrown (w := wr) g2
                  have m3 := cell_regrown (w := wr) g3
                  have m4 := cell_regrown (w := wr) g4
                  have cl : ∀ t v : Sp, isSp t = true → isSp v = true → ∀ dd os, Calls Try.prog 52 #[.agg #[.int .i64 t.x, .int .i64 t.y], .agg #[.int .i64 v.x, .int .i64 v.y]] (grow (redrawn wr dd) os) fun e w'' => e = .returned (.int .i64 (sq t v)) ∧ ∃ p : Regrown, w'' = grow (redrawn wr p.d) p.os :=
                    fun t v ht hv dd os => Calls.regrown_of ((squareOf_any t v ht hv _).mono (by rintro e w' ⟨rfl, o1, o2, rfl⟩; exact ⟨rfl, ((Below.refl _ _).alloc (Nat.le_refl _) _).alloc (by simp) _⟩))
                  have C1 := Lib.hid cl
                  have HB2 := Lib.hid hb2
                  have hsum : IntKind.i64.wrap (sq s u + tv) = sq s u + tv := IntWalk.i64_in _ (by omega)
                  have hi1 : (i : Int) + 1 < (M1 : Int) := by omega
                  have hiw : IntKind.i64.wrap ((i : Int) + 1) = ((i + 1 : Nat) : Int) := IntWalk.i64_in _ (by omega)
                  clear hy hz hs1 hu1 e5 cl hb2 htb hraw hx hmv htve hcv hT8 R1 hgx ev
                  go_wp2_with fail
                  clear e1 e2 e3 e4 e6 e7 g1 g2 g3 g4
                  refine wp_region_below_tail 38 (by kernel_rfl) (by kernel_rfl) ?_
                  simp only [List.take_succ_cons, List.take_zero, List.drop_succ_cons, List.drop_zero]
                  repeat (first | go_big_quiet_step (exact C1.out _ _ (by assumption) (by assumption) _ _) | quiet_step (exact C1.out _ _ (by assumption) (by assumption) _ _))
                  refine wpQuiet_nil ?_
                  intro _ hw'
                  obtain ⟨⟨dq, osq⟩, hw''⟩ := hw'
                  subst hw''
                  have hN9 := HN8.out.below (below_regrown wr dq osq) HN8.out.lt
                  have z9 := hN9.frozen t
                  have e9 := blk_int (x := mv) hN9 (show ((bTo cc q m (r + 1) t P).set t mv)[t]? = some mv by rw [List.getElem?_set_self (by simp [bTo, htP])])
                  have hB9 : Below g w5 (grow (redrawn wr dq) osq) := HB8.out.trans ((below_regrown wr dq osq).mono (Nat.le_of_lt HN8.out.lt))
                  have HN9 := Lib.hid hN9
                  have HB9 := Lib.hid hB9
                  clear hN9 hB9 k1 k2 k3 k4 k6 k7 m1 m2 m3 m4
                  generalize grow (redrawn wr dq) osq = w9 at *
                  go_wp2
                  go_roundw
                  case rel =>
                    have st := blk_set (k := t) HN9.out (min mv (sq s u + tv))
                    rw [List.set_set] at st
                    rw [ite_min]
                    exact ⟨k + 1, by omega, by go_num, by rw [HM2.out]; exact st, HB9.out.setCell (Nat.le_refl _) _⟩
                  case measure => simp [intOf]; omega
                · have hbit := bit_yes ht62 htb
                  have HM2 := Lib.hid (show mnB (fun k => cc i k + bst cc q m r (t ||| 2 ^ k)) t (k + 1) = mnB (fun k => cc i k + bst cc q m r (t ||| 2 ^ k)) t k by rw [mnB, htb]; rfl)
                  clear htb hz hb2
                  go_wp2
                  go_roundw
                  case rel => exact ⟨k + 1, by omega, by go_num, by rw [HM2.out]; exact HN8.out, HB8.out⟩
                  case measure => simp [intOf]; omega
              · obtain rfl : k = q := by omega
                clear hb2
                go_wp2
                go_roundw
                case rel => exact ⟨t + 1, by omega, by go_num, by rw [HBS.out t htP]; exact HN8.out, HB8.out⟩
                case measure => simp [intOf]; omega
          · obtain rfl : t = P := by omega
            clear hT6
            go_wp2
            obtain rfl := HGB.out
            go_roundw
            case rel =>
              refine ⟨i, by omega, by first | rfl | (congr 1; done) | (congr 1; go_num), ?_, HB5.out.trans (HB6.out.mono (Nat.le_of_lt hwg))⟩
              refine BstO.more (HT5.out.below HB6.out hgb) hgb (fun j h1 h2 => ⟨(HR5.out j h1 h2).1, (HR5.out j h1 h2).2.2.below HB6.out (HR5.out j h1 h2).2.1⟩) ?_
              rw [hr]
              exact HN6.out
            case measure => first | (simp [intOf]; done) | (simp [intOf]; omega)
end Go.Proofs.Ythppancpecjegaa
