/-
  What the reference reads as a sheet.
-/
import Derived.Test.YtdmgffcabjpihaaGreatDoorPsa
import Derived.Test.YtdmgffcabjpihaaGreatDoorApp
import Derived.Deep.RegionLaw
namespace Go.Proofs.YtdmgffcabjpihaaGreatDoor
open Go.RowKit
open Go.Sort (grow)
open Go.Lib (decDigits)

theorem own_sameP {w w' : World} {base : Nat} {e : TypeId} {size : Nat} {v : Value} {n : Nat} {xs : List Value} (h : w.ownsRow base e size v n xs) (hs : ∀ g, v.ownBlock = some g → w'.heap[g]? = w.heap[g]?) : w'.ownsRow base e size v n xs := by
  refine ⟨h.1, ?_⟩
  rcases h.2 with h2 | ⟨g, cap, cur, h2, h3, h4, h5⟩
  · exact .inl h2
  · exact .inr ⟨g, cap, cur, h2, h3, (hs g (by rw [h2]; rfl)).trans h4, h5⟩
theorem own_capP {w : World} {base : Nat} {e : TypeId} {size : Nat} {A : Option Addr} {n c : Nat} {xs : List Value} (h : w.ownsRow base e size (.slice A n c) n xs) : n ≤ c := by
  rcases h.2 with ⟨_, h2⟩ | ⟨g, cap, cur, hv, _, _, h3, _⟩
  · omega
  · simp only [Value.slice.injEq] at hv
    omega
theorem own_othP {w : World} {base : Nat} {e : TypeId} {size : Nat} {v u : Value} {n : Nat} {xs : List Value} {p : Addr} (h : w.ownsRow base e size v n xs) (hne : v.ownBlock ≠ some p.block) : (w.setCell p u).ownsRow base e size v n xs := by
  cases hx : v.ownBlock with
  | none => exact own_sameP h (fun g hg => by rw [hx] at hg; cases hg)
  | some b => exact own_sameP h (fun g hg => heap_setCell_other w p g u (fun e => hne (by rw [hg, e])))
/-- An append inside a region that draws: other blocks stay, none becomes the row's. -/
theorem step_append_keepP {P : Program} (w W : World) {ops : Array Oper} {o : Oper} {a : Act} {K : Act → World → Prop} {Q : Exit → Act → World → Prop} {E : Prop} (hgd : o.guard = none) (s x : Operand) (t : TypeId)
    (ho : o.op = .call { callee := .builtin .append, args := #[s, x], argTypes := #[t, t] })
    (base : Nat) (e : TypeId) (i : TypeInfo) (z : Value) (size bytes : Nat) (ht : P.underlying t = some (.slice e)) (hi : P.info? e = some i) (hz : i.zero = some z)
    (hsize : i.size = size) (hby : i.bytes = bytes) (hzs : z.cells.size = size) (hsz : 0 < size)
    (v : Value) (n : Nat) (xs : List Value) (hs : a.eval s = v) (hown : w.ownsRow base e size v n xs)
    (news : Array Value) (te : TypeId) (c : Nat) (hx : a.eval x = .slice (some ⟨w.heap.size, 0, none⟩) 1 c) (hW : W = w.alloc (.cells news te)) (hl : news.size = size) (h1 : news.toList.all Value.oneCell' = true)
    (h63 : n ≤ 1073741824) (hbytes : bytes ≤ 65536) (hbase : base ≤ w.heap.size)
    (h : ∀ v' w', w'.ownsRow base e size v' (n + 1) (xs ++ news.toList) → Below base w w' → (∀ k, k < w.heap.size → v.ownBlock ≠ some k → w'.heap[k]? = w.heap[k]? ∧ v'.ownBlock ≠ some k) → w.heap.size < w'.heap.size → K (a.put o.dst v') w') :
    if Region.wanted o (yielded ops a.tmps) = true then Oper.wp P o a W K Q else E := by
  subst hW
  have hw : Region.wanted o (yielded ops a.tmps) = true := by simp [Region.wanted, hgd]
  rw [if_pos hw]
  have hb2 : (n + 1) * bytes ≤ 140737488355328 := Nat.le_trans (Nat.mul_le_mul (Nat.succ_le_succ h63) hbytes) (by decide)
  obtain ⟨v', w', hrun, ho', hg, _, hat⟩ := run_append_own_at (P := P) (w.alloc (.cells news te)) base t o.type e i z size bytes ht hi hz hsize hby hzs hsz v n xs (hown.alloc _) ⟨w.heap.size, 0, none⟩ 1 c news.toList (by simpa using hl)
    (by
      intro j u hu
      rw [Addr.add_lit, Nat.zero_add, cell_of_row _ w.heap.size j news te (0, 0) (heap_alloc_new w _)]
      simpa using hu)
    (fun u hu => List.all_eq_true.1 h1 u hu) (by unfold maxLen; omega) hb2 (by simp; omega)
  unfold Oper.wp execOp
  simp only [ho, resolve, invoke, builtin, Sem.run_bind, Sem.run_pure, Result.andThen_ok, List.map_toArray, List.map_cons, List.map_nil, hs, hx, hrun]
  refine h v' w' ho' (((Below.refl base w).alloc hbase _).grown hg (by simp; omega) (fun k hk => ?_)) (fun k hk hne => ⟨?_, ?_⟩) (by have := hg.size; simp at this; omega)
  · exact (hown.lt k hk).1
  · rw [hg.block k (by simp; omega) (fun e => hne e.symm)]
    exact ((Below.refl w.heap.size w).alloc (Nat.le_refl _) _).block k hk
  · rcases hat with hat | hat
    · rw [hat]; exact hne
    · rw [hat]
      intro e
      have := Option.some.inj e
      simp at this
      omega

theorem rdV_itoa {c : Int} (h0 : 0 ≤ c) (h1 : c < 1000000) : rdV (Lib.itoa c) = c := by
  obtain ⟨n, rfl⟩ := Int.eq_ofNat_of_zero_le h0
  rw [itoa_nat]
  exact rdV_some (num_iff.2 ⟨rfl, dec_len n (by omega)⟩)
/-- A sheet with a text: its first line, its lines. -/
theorem sheet_head {t : List UInt8} {p : Int} {s : Sp} {L : List Rw} (h : shOk p s L = true) (e : shT p s L = t) : (spl 10 t)[0]? = some (hdL p s) ∧ (spl 10 t).length = L.length + 2 ∧ spl 32 (hdL p s) = [[112, 101, 114, 102, 111, 114, 109, 101, 114], Lib.itoa p, spT s] := by
  obtain ⟨h1, h2, h3, h4⟩ := shOk_iff.1 h
  rw [← e, shT_spl h]
  exact ⟨rfl, by simp, hdL_spl h1 h2⟩
theorem sheet_line {t : List UInt8} {p : Int} {s : Sp} {L : List Rw} (h : shOk p s L = true) (e : shT p s L = t) {k : Nat} {line : List UInt8} (hk : (spl 10 t)[k + 1]? = some line) (hlt : k + 2 < (spl 10 t).length) :
    ∃ r, L[k]? = some r ∧ isRw r = true ∧ line = rwL r ∧ spl 32 line = [Lib.itoa r.c, spT r.t] := by
  obtain ⟨h1, h2, h3, h4⟩ := shOk_iff.1 h
  rw [(sheet_head h e).2.1] at hlt
  obtain ⟨r, hr⟩ := some_of_lt (L := L) (k := k) (by omega)
  rw [← e, shT_spl h, List.getElem?_cons_succ, List.getElem?_append_left (by simp; omega), List.getElem?_map, hr] at hk
  cases hk
  have h5 := all_at h4 hr
  exact ⟨r, hr, h5, rfl, rwL_spl h5⟩
/-- A call that hands back the sheet with a text. -/
def RetPr (w : World) (t : List UInt8) (e : Ending) (w' : World) : Prop :=
  ∃ (r : Option (Int × Sp × List Rw)) (A' : Option Addr) (c' : Nat) (p : Int) (s : Sp) (L : List Rw), (∀ p s L, r = some (p, s, L) ↔ shOk p s L = true ∧ shT p s L = t) ∧ (p, s, L) = r.getD (0, ⟨0, 0⟩, []) ∧
    e = .returned (.tuple #[.agg #[.int .i64 p, .int .i64 s.x, .int .i64 s.y, .slice A' L.length c'], .bool r.isSome]) ∧ w'.ownsRow w.heap.size 46 3 (.slice A' L.length c') L.length (rows L) ∧ Below w.heap.size w w'
theorem RetPr.no {w w' : World} {t : List UInt8} (h : ∀ p s L, shOk p s L = true → shT p s L ≠ t) (hb : Below w.heap.size w w') : RetPr w t (.returned (.tuple #[.agg #[.int .i64 0, .int .i64 0, .int .i64 0, .slice none 0 0], .bool false])) w' :=
  ⟨none, none, 0, 0, ⟨0, 0⟩, [], fun p s L => ⟨(fun e => by cases e), fun h1 => absurd h1.2 (h p s L h1.1)⟩, rfl, rfl, World.ownsRow_nil _ _ _ _, hb⟩
theorem RetPr.yes {w w' : World} {t : List UInt8} {p : Int} {s : Sp} {L : List Rw} {v : Value} {n base : Nat} (h1 : shOk p s L = true) (h2 : shT p s L = t) (h3 : ∀ p' s' L', shOk p' s' L' = true → shT p' s' L' = t → p' = p ∧ s' = s ∧ L' = L)
    (ho : w'.ownsRow base 46 3 v n (rows L)) (hn : n = L.length) (hbase : w.heap.size ≤ base) (hb : Below w.heap.size w w') : RetPr w t (.returned (.tuple #[.agg #[.int .i64 p, .int .i64 s.x, .int .i64 s.y, v], .bool true])) w' := by
  subst hn
  obtain ⟨A', c', rfl⟩ := own_form ho
  refine ⟨some (p, s, L), A', c', p, s, L, fun p' s' L' => ⟨(fun e => by cases e; exact ⟨h1, h2⟩), fun h => ?_⟩, rfl, rfl, own_base ho hbase, hb⟩
  obtain ⟨rfl, rfl, rfl⟩ := h3 p' s' L' h.1 h.2
  rfl

set_option maxHeartbeats 6400000 in
set_option maxRecDepth 100000 in
theorem spec_ParseSheet_any (t : List UInt8) (ht : t.length ≤ 1048576) (w : World) : Calls Tryz.prog 22 #[.string (bs t)] w (RetPr w t) := by
  have HPL := Lib.hid (pieces_le (c := 10) (l := t))
  have HPN := Lib.hid (spl_len 10 t)
  have hz := bs_size t
  go_enter Tryz.func22, Tryz.ntmps22
  go_wp2_with fail
  have hb0 := Blk.new w #[.int .i64 0, .int .i64 0, .int .i64 0, .slice none 0 0] 28
  have hq0 : Below w.heap.size w (w.alloc (.cells #[.int .i64 0, .int .i64 0, .int .i64 0, .slice none 0 0] 28)) := (Below.refl _ _).alloc (Nat.le_refl _) _
  have HB0 := Lib.hid hb0
  have HQ0 := Lib.hid hq0
  clear hb0 hq0
  generalize w.alloc (.cells #[.int .i64 0, .int .i64 0, .int .i64 0, .slice none 0 0] 28) = w0 at *
  generalize hgs : w.heap.size = g at HB0 ⊢
  have HG := Lib.hid (Nat.le_of_eq hgs)
  clear hgs
  refine (l1Split_any t 10 ht w0).mono ?_
  rintro e w1 ⟨A, c, rfl, ho, hq⟩
  have HQ1 := Lib.hid (Below.next hq HQ0.out HQ0.out.size)
  have HB1 := Lib.hid (HB0.out.below hq HB0.out.lt)
  have HM := Lib.hid (Mem.of_own ho)
  have HCAP := Lib.hid (own_capP ho)
  clear ho hq HB0 HQ0
  obtain ⟨P, hP⟩ : ∃ P, spl 10 t = P := ⟨_, rfl⟩
  have HP := Lib.hid hP
  rw [hP] at HM HCAP HPL HPN
  rw [hP]
  clear hP
  have hp0 : 0 < P.length := by
    rcases Nat.eq_zero_or_pos P.length with h | h
    · exact absurd (List.eq_nil_of_length_eq_zero h) (by rw [← HP.out]; exact spl_ne _ _)
    · exact h
  obtain ⟨l0, hl0⟩ := some_of_lt (L := P) (k := 0) hp0
  obtain ⟨m, off, rfl, x0⟩ := HM.out.str hl0
  simp only [Nat.add_zero] at x0
  have HL0 := Lib.hid hl0
  have hll : l0.length ≤ 1048576 := Nat.le_trans (HPL.out l0 (List.mem_of_getElem? hl0)) ht
  have hi0 : (0 : Int) < P.length := by omega
  clear hl0
  go_wp2_with fail
  refine (l1Split_any l0 32 hll w1).mono ?_
  rintro e w2 ⟨B, d, rfl, ho, hq⟩
  have HQ2 := Lib.hid (Below.next hq HQ1.out HQ1.out.size)
  have HB2 := Lib.hid (HB1.out.below hq HB1.out.lt)
  have HM2 := Lib.hid (HM.out.below hq)
  have HN2 := Lib.hid (Mem.of_own ho)
  have HQL := Lib.hid (pieces_le (c := 32) (l := l0))
  clear ho hq HB1 HQ1 HM x0
  obtain ⟨Q, hQ⟩ : ∃ Q, spl 32 l0 = Q := ⟨_, rfl⟩
  have HQQ := Lib.hid hQ
  rw [hQ] at HN2 HQL
  rw [hQ]
  clear hQ
  have q0 := HB2.out.cell 0
  have q1 := HB2.out.cell 1
  have q2 := HB2.out.cell 2
  have q3 := HB2.out.cell 3
  have k0 := HB2.out.frozen 0
  have k1 := HB2.out.frozen 1
  have k2 := HB2.out.frozen 2
  have k3 := HB2.out.frozen 3
  simp at q0 q1 q2 q3
  cases hin : inR (P.length : Int) 2 10
  · have HI := Lib.hid hin
    have HNO := Lib.hid (show ∀ p s L, shOk p s L = true → shT p s L ≠ t from fun p s L h e => by
      have h1 := (sheet_head h e).2.1
      have h2 := (shOk_iff.1 h).2.2.1
      rw [HP.out] at h1
      have : inR (P.length : Int) 2 10 = true := inR_iff.2 ⟨by omega, by omega⟩
      rw [hin] at this
      cases this)
    clear hin
    go_wp2_with fail
    refine (l1In_any _ _ _ _).mono ?_
    rintro e _ ⟨rfl, rfl⟩
    rw [HI.out]
    go_wp2
    exact bodyPost_ret (v := .tuple #[.agg #[.int .i64 0, .int .i64 0, .int .i64 0, .slice none 0 0], .bool false]) (by simp [results, Tryz.results22, go_sem, q0, q1, q2, q3]) rfl (RetPr.no HNO.out ((((HQ2.out.setCell HG.out _).setCell HG.out _).setCell HG.out _).setCell HG.out _))
  have HI := Lib.hid hin
  have hin2 := inR_iff.1 hin
  by_cases hq3 : Q.length = 3
  case neg =>
    have HNO := Lib.hid (show ∀ p s L, shOk p s L = true → shT p s L ≠ t from fun p s L h e => by
      obtain ⟨h1, h2, h3⟩ := sheet_head h e
      rw [HP.out, HL0.out] at h1
      cases h1
      rw [HQQ.out] at h3
      exact hq3 (by rw [h3]; rfl))
    have hb2 : ¬ (Q.length : Int) = 3 := by omega
    clear hin hq3
    go_wp2_with fail
    refine (l1In_any _ _ _ _).mono ?_
    rintro e _ ⟨rfl, rfl⟩
    rw [HI.out]
    go_wp2
    exact bodyPost_ret (v := .tuple #[.agg #[.int .i64 0, .int .i64 0, .int .i64 0, .slice none 0 0], .bool false]) (by simp [results, Tryz.results22, go_sem, q0, q1, q2, q3]) rfl (RetPr.no HNO.out ((((HQ2.out.setCell HG.out _).setCell HG.out _).setCell HG.out _).setCell HG.out _))
  clear q0 q1 q2 q3 k0 k1 k2 k3 hin
  obtain ⟨a0, a1, a2, rfl⟩ : ∃ a b c, Q = [a, b, c] := by
    match Q, hq3 with
    | [a, b, c], _ => exact ⟨a, b, c, rfl⟩
  simp only [List.length_cons, List.length_nil]
  have ha1 : a1.length ≤ 1048576 := Nat.le_trans (HQL.out a1 (by simp)) hll
  have ha2 : a2.length ≤ 1048576 := Nat.le_trans (HQL.out a2 (by simp)) hll
  obtain ⟨m2, off2, rfl, y1⟩ := HN2.out.str (k := 1) (p := a1) rfl
  obtain ⟨m2', off2', hbe, y2⟩ := HN2.out.str (k := 2) (p := a2) rfl
  cases hbe
  clear hq3 HN2 HQL
  go_wp2_with fail
  refine (l1In_any _ _ _ _).mono ?_
  rintro e _ ⟨rfl, rfl⟩
  rw [HI.out]
  go_wp2_with fail
  refine (stParse_any a2 ha2 w2).mono ?_
  rintro e w3 ⟨r, hr, rfl, hq⟩
  have HQ3 := Lib.hid (Below.next hq HQ2.out HQ2.out.size)
  have HB3 := Lib.hid (HB2.out.below hq HB2.out.lt)
  have HM3 := Lib.hid (HM2.out.below hq)
  have z1 := keep1 hq y1
  have HR := Lib.hid hr
  clear hq HB2 HQ2 HM2 y1 y2 hr
  go_wp2_with fail
  obtain ⟨ra, hra⟩ : ∃ a, r.getD ⟨0, 0⟩ = a := ⟨_, rfl⟩
  have HRA := Lib.hid hra
  rw [hra]
  clear hra
  have hbA := Blk.new w3 #[.int .i64 ra.x, .int .i64 ra.y] 25
  have hqA : Below w3.heap.size w3 (w3.alloc (.cells #[.int .i64 ra.x, .int .i64 ra.y] 25)) := (Below.refl _ _).alloc (Nat.le_refl _) _
  have HBA := Lib.hid hbA
  have HQ4 := Lib.hid (Below.next hqA HQ3.out HQ3.out.size)
  have HB4 := Lib.hid (HB3.out.below hqA HB3.out.lt)
  have HM4 := Lib.hid (HM3.out.below hqA)
  have z2 := keep1 hqA z1
  clear hbA hqA z1 HQ3 HB3 HM3
  generalize w3.alloc (.cells #[.int .i64 ra.x, .int .i64 ra.y] 25) = w4 at *
  generalize w3.heap.size = gA at HBA ⊢
  have x0 := HBA.out.cell 0
  have x1 := HBA.out.cell 1
  simp at x0 x1
  have hgl := HB4.out.lt
  have hgA := HBA.out.lt
  have hml : m < w4.heap.size := by
    obtain ⟨m', off', hme, hmx⟩ := HM4.out.str HL0.out
    cases hme
    exact World.block_lt_of_cell? _ _ hmx
  have hm2 : m2 < w4.heap.size := World.block_lt_of_cell? _ _ z2
  have C1 := Lib.hid (l1Read_any a1 ha1)
  generalize hbv : rdV a1 = pv at C1
  have HPV := Lib.hid hbv
  clear hbv
  go_cut [8] from 37 to 42 (fun v8 wx => ∃ gS : Nat, v8 = .pointer (some ⟨gS, 0, none⟩) ∧ g < gS ∧ m < gS ∧ Blk wx gS #[.int .i64 pv, .int .i64 ra.x, .int .i64 ra.y, .slice none 0 0] 28 ∧ Blk wx g #[.int .i64 0, .int .i64 0, .int .i64 0, .slice none 0 0] 28 ∧ Below w4.heap.size w4 wx)
  case first =>
    go_region_with (go_at_call 51; refine (C1.out _).mono ?_; rintro e _ ⟨rfl, rfl⟩)
    all_goals
      go_wp2_with fail
      go_meet
      refine ⟨_, rfl, ?_, ?_, ?_, ?_, ?_⟩
      · exact hgl
      · exact hml
      · exact Blk.new _ _ _
      · exact HB4.out.below (by (repeat (first | exact Below.refl _ _ | assumption | (refine Below.alloc ?_ (by first | omega | (simp; done) | (simp; omega)) _) | (refine Below.setCell ?_ (by first | omega | (simp; done) | (simp; omega)) _) | (refine Below.drew ?_) | (refine Below.drewN ?_ _) | (refine Below.next (by assumption) ?_ (by first | omega | (simp; done) | (simp; omega)))))) hgl
      · (repeat (first | exact Below.refl _ _ | assumption | (refine Below.alloc ?_ (by first | omega | (simp; done) | (simp; omega)) _) | (refine Below.setCell ?_ (by first | omega | (simp; done) | (simp; omega)) _) | (refine Below.drew ?_) | (refine Below.drewN ?_ _) | (refine Below.next (by assumption) ?_ (by first | omega | (simp; done) | (simp; omega)))))
  case rest =>
    obtain ⟨gS, rfl, hgS, hmS, hS, hG, hQ⟩ := hcut
    have HS5 := Lib.hid hS
    have HG5 := Lib.hid hG
    have HQ5 := Lib.hid (Below.next hQ HQ4.out HQ4.out.size)
    have HM5 := Lib.hid (HM4.out.below hQ)
    have hi1 : IntKind.i64.wrap ((P.length : Int) - 1) = (P.length : Int) - 1 := IntWalk.i64_in _ (by omega)
    have hcap := HCAP.out
    clear C1 x0 x1 z2 HBA HB4 HQ4 HM4 hS hG hQ hgl hgA hm2 hml
    go_wp2_with fail
    obtain ⟨N, hN⟩ : ∃ N, P.length = N + 2 := ⟨P.length - 2, by omega⟩
    have e0 : P.length - 1 - 1 = N := by omega
    have HNN := Lib.hid hN
    have hgw := HS5.out.lt
    have hwg : w.heap.size < gS := Nat.lt_of_le_of_lt HG.out hgS
    have hN8 : N ≤ 8 := by omega
    rw [e0]
    have HF0 : Hid (∀ p s L, shOk p s L = true → shT p s L = t → ra = s ∧ pv = p ∧ L.length = N ∧ ([] : List Rw) = L.take 0 ∧ r.isSome = true) := Lib.hid (fun p s L h e => by
      obtain ⟨h1, h2, h3⟩ := sheet_head h e
      rw [HP.out, HL0.out] at h1
      cases h1
      rw [HQQ.out] at h3
      obtain ⟨-, h3⟩ := List.cons.inj h3
      obtain ⟨h4, h3⟩ := List.cons.inj h3
      obtain ⟨h5, -⟩ := List.cons.inj h3
      have h6 := shOk_iff.1 h
      have h7 : r = some s := (HR.out s).2 ⟨h6.2.1, h5.symm⟩
      have h8 := inR_iff.1 h6.1
      rw [HP.out, hN] at h2
      refine ⟨?_, ?_, by omega, rfl, by rw [h7]; rfl⟩
      · rw [← HRA.out, h7]; rfl
      · rw [← HPV.out, h4]; exact rdV_itoa (by omega) (by omega))
    clear e0 hN hcap hi1 HR HRA HPV HI hin2 hi0 ha1 ha2
    have hi : True := trivial
    obtain ⟨i0, hi, hz0, hz1, hz2⟩ := info_parts info_row
    go_loopw [7, 10, 11, 12, 13, 49] (fun v7 _ _ _ _ i wr => ∃ (k : Nat) (R : List Rw) (ok : Bool) (rv : Value), k ≤ N ∧ i = .int .i64 k ∧ v7 = .bool ok ∧ Hid (Blk wr gS #[.int .i64 pv, .int .i64 ra.x, .int .i64 ra.y, rv] 28) ∧ Hid (wr.ownsRow (gS + 1) 46 3 rv k (rows R)) ∧ Hid (R.length = k) ∧ Hid (∀ p s L, shOk p s L = true → shT p s L = t → ra = s ∧ pv = p ∧ L.length = N ∧ R = L.take k ∧ ok = true) ∧ Hid (Below gS wc wr)) (fun _ _ _ _ _ i _ => N - (intOf i).toNat)
    case atStart => exact ⟨0, [], r.isSome, .slice none 0 0, by omega, rfl, rfl, HS5, Lib.hid (World.ownsRow_nil _ _ _ _), Lib.hid rfl, HF0, Lib.hid (Below.refl _ _)⟩
    case round =>
      obtain ⟨k, R, ok, rv, hk, rfl, rfl, HSk, HOk, HRk, HFk, HBk⟩ := hrel
      have HGk := Lib.hid (HG5.out.below HBk.out hgS)
      have HQk := Lib.hid (HQ5.out.trans (HBk.out.mono (Nat.le_of_lt hwg)))
      have hgk := HSk.out.lt
      by_cases hlt : k < N
      · obtain ⟨line, hl⟩ := some_of_lt (L := P) (k := k + 1) (by have := HNN.out; omega)
        obtain ⟨m', off', hbe, x0⟩ := HM5.out.str hl
        cases hbe
        have x1 : wr.cell? ⟨m, off + 1 + k, none⟩ = some (.string (bs line)) := by
          rw [show off + 1 + k = off + (k + 1) by omega]
          exact (HBk.out.cell hmS).trans x0
        have HLN := Lib.hid hl
        have hll2 : line.length ≤ 1048576 := Nat.le_trans (HPL.out line (List.mem_of_getElem? hl)) ht
        clear x0 hl
        go_wp2_with fail
        refine (l1Split_any line 32 hll2 wr).mono ?_
        rintro e w6 ⟨B, d, rfl, ho, hq⟩
        have HS6 := Lib.hid (HSk.out.below hq hgk)
        have HO6 := Lib.hid (own_below HOk.out hq)
        have HG6 := Lib.hid (HGk.out.below hq HGk.out.lt)
        have HQ6 := Lib.hid (Below.next hq HQk.out HQk.out.size)
        have HB6 := Lib.hid (HBk.out.trans (hq.mono (Nat.le_of_lt hgk)))
        have HX6 := Lib.hid (Mem.of_own ho)
        have HXL := Lib.hid (pieces_le (c := 32) (l := line))
        have hg6 := HS6.out.lt
        clear ho hq HSk HOk HGk HQk HBk x1
        by_cases h2 : (spl 32 line).length = 2
        case neg =>
          have HNO := Lib.hid (show ∀ p s L, shOk p s L = true → shT p s L ≠ t from fun p s L h e => by
            obtain ⟨q, -, -, -, h4⟩ := sheet_line h e (k := k) (line := line) (by rw [HP.out]; exact HLN.out) (by rw [HP.out, HNN.out]; omega)
            exact h2 (by rw [h4]; rfl))
          have hb2 : ¬ ((spl 32 line).length : Int) = 2 := by omega
          have q0 := HG6.out.cell 0
          have q1 := HG6.out.cell 1
          have q2 := HG6.out.cell 2
          have q3 := HG6.out.cell 3
          have k0 := HG6.out.frozen 0
          have k1 := HG6.out.frozen 1
          have k2 := HG6.out.frozen 2
          have k3 := HG6.out.frozen 3
          simp at q0 q1 q2 q3
          clear h2
          generalize (spl 32 line).length = nn at *
          go_wp2
          exact bodyPost_ret (v := .tuple #[.agg #[.int .i64 0, .int .i64 0, .int .i64 0, .slice none 0 0], .bool false]) (by simp [results, Tryz.results22, go_sem, q0, q1, q2, q3]) rfl (RetPr.no HNO.out ((((HQ6.out.setCell HG.out _).setCell HG.out _).setCell HG.out _).setCell HG.out _))
        obtain ⟨b0, b1, hs⟩ : ∃ a b, spl 32 line = [a, b] := by
          match h : spl 32 line, h2 with
          | [a, b], _ => exact ⟨a, b, rfl⟩
        have HXS := Lib.hid hs
        rw [hs] at HX6
        have hb0 : b0.length ≤ 1048576 := Nat.le_trans (HXL.out b0 (by rw [hs]; simp)) hll2
        have hb1 : b1.length ≤ 1048576 := Nat.le_trans (HXL.out b1 (by rw [hs]; simp)) hll2
        simp only [hs, List.length_cons, List.length_nil]
        obtain ⟨m2, off2, rfl, y0⟩ := HX6.out.str (k := 0) (p := b0) rfl
        obtain ⟨m2', off2', hbe, y1⟩ := HX6.out.str (k := 1) (p := b1) rfl
        cases hbe
        simp only [Nat.add_zero] at y0
        clear hs h2 HX6 HXL
        go_wp2_with fail
        refine (stParse_any b1 hb1 w6).mono ?_
        rintro e w7 ⟨r2, hr2, rfl, hq⟩
        obtain ⟨rb, hrb⟩ : ∃ a, r2.getD ⟨0, 0⟩ = a := ⟨_, rfl⟩
        have HRB := Lib.hid hrb
        have HR2 := Lib.hid hr2
        rw [hrb]
        have HS7 := Lib.hid (HS6.out.below hq hg6)
        have HO7 := Lib.hid (own_below HO6.out hq)
        have HG7 := Lib.hid (HG6.out.below hq HG6.out.lt)
        have HQ7 := Lib.hid (Below.next hq HQ6.out HQ6.out.size)
        have HB7 := Lib.hid (HB6.out.trans (hq.mono (Nat.le_of_lt hg6)))
        have z0 := keep1 hq y0
        have hg7 := HS7.out.lt
        clear hrb hr2 hq y0 y1 HS6 HO6 HG6 HQ6 HB6 hg6
        go_wp2_with fail
        all_goals
          have hbT := Blk.new w7 #[.int .i64 rb.x, .int .i64 rb.y] 25
          have hqT : Below w7.heap.size w7 (w7.alloc (.cells #[.int .i64 rb.x, .int .i64 rb.y] 25)) := (Below.refl _ _).alloc (Nat.le_refl _) _
          have HBT := Lib.hid hbT
          have HS8 := Lib.hid (HS7.out.below hqT hg7)
          have HO8 := Lib.hid (own_drew (own_below HO7.out hqT))
          have HB8 := Lib.hid (HB7.out.trans (hqT.mono (Nat.le_of_lt hg7)))
          have z1 := keep1 hqT z0
          have HN1 := Lib.hid (show rv.ownBlock ≠ some gS from fun e => by have := (HO7.out.lt _ e).1; omega)
          have hg8 := HS8.out.lt
          clear hbT hqT z0 HS7 HO7 HG7 HQ7 HB7 hg7
          generalize w7.alloc (.cells #[.int .i64 rb.x, .int .i64 rb.y] 25) = w8 at *
          generalize w7.heap.size = gT at HBT ⊢
          have x0 := HBT.out.cell 0
          have x1 := HBT.out.cell 1
          have x2 := HS8.out.cell 3
          simp at x0 x1 x2
          have C2 := Lib.hid (l1Read_any b0 hb0)
          generalize hnv : rdV b0 = nv at C2
          have HNV := Lib.hid hnv
          clear hnv
          have HF9 := Lib.hid (show ∀ p s L, shOk p s L = true → shT p s L = t → ra = s ∧ pv = p ∧ L.length = N ∧ R ++ [(⟨nv, rb⟩ : Rw)] = L.take (k + 1) ∧ ok = true ∧ r2.isSome = true from fun p s L h e => by
            obtain ⟨f1, f2, f3, f4, f5⟩ := HFk.out p s L h e
            obtain ⟨q, g1, g2, -, g4⟩ := sheet_line h e (k := k) (line := line) (by rw [HP.out]; exact HLN.out) (by rw [HP.out, HNN.out]; omega)
            rw [HXS.out] at g4
            obtain ⟨g5, g4⟩ := List.cons.inj g4
            obtain ⟨g6, -⟩ := List.cons.inj g4
            have g7 := isRw_iff.1 g2
            have g8 : r2 = some q.t := (HR2.out q.t).2 ⟨g7.2, g6.symm⟩
            have g9 : rb = q.t := by rw [← HRB.out, g8]; rfl
            have g10 : nv = q.c := by rw [← HNV.out, g5]; exact rdV_itoa (by omega) (by omega)
            refine ⟨f1, f2, f3, ?_, f5, by rw [g8]; rfl⟩
            rw [List.take_add_one, g1, ← f4, g9, g10]
            rfl)
          go_region_law
            ((first
              | (refine step_append_keepP w8.drew _ rfl (.tmp 71) (.tmp 78) 26 rfl (gS + 1) 46 i0 (.agg #[.int .i64 0, .int .i64 0, .int .i64 0]) 3 24 Tryz.underlying26 hi hz0 hz1 hz2 rfl (by omega) _ _ _ rfl HO8.out #[.int .i64 nv, .int .i64 rb.x, .int .i64 rb.y] 46 1 rfl rfl rfl rfl (by omega) (by omega) (by show gS + 1 ≤ w8.heap.size; omega) ?_; intro v' w9 hown' hb9 hkeep hsz9; obtain ⟨A9, q9, rfl⟩ := own_form hown'; obtain ⟨kb1, kb2⟩ := hkeep gS (by simp; omega) HN1.out; have hB9 : Blk w9 gS #[.int .i64 pv, .int .i64 ra.x, .int .i64 ra.y, rv] 28 := kb1.trans HS8.out; have z9 : w9.frozen? ⟨gS, 3, none⟩ = false := Blk.frozen hB9 3; have c9 : w9.cell? ⟨gS, 3, none⟩ = some rv := (Blk.cell hB9 3).trans rfl; have hbl9 : gS < w9.heap.size := Blk.lt hB9)
              | (go_simp; go_at_call 51; refine (C2.out _).mono ?_; rintro e _ ⟨rfl, rfl⟩)))
          all_goals
            go_wp2_with fail
            go_roundw
            case rel =>
              refine ⟨k + 1, R ++ [(⟨nv, rb⟩ : Rw)], _, .slice A9 (k + 1) q9, by omega, by go_num, rfl, Lib.hid (hB9.set 3 _), Lib.hid (own_othP (by rw [rows_snoc]; exact hown') kb2), Lib.hid (by rw [List.length_append, HRk.out]; rfl), Lib.hid (fun p s L h e => ?_), Lib.hid (((HB8.out.drew).trans (hb9.mono (by omega))).setCell (by (try dsimp only); omega) _)⟩
              obtain ⟨f1, f2, f3, f4, f5, f6⟩ := HF9.out p s L h e
              exact ⟨f1, f2, f3, f4, by first | exact f6 | exact absurd f5 (by assumption)⟩
            case measure => simp [intOf]; omega
      · obtain rfl : k = R.length := HRk.out.symm
        have HFN := Lib.hid (show ∀ p s L, shOk p s L = true → shT p s L = t → ra = s ∧ pv = p ∧ R = L ∧ ok = true from fun p s L h e => by
          obtain ⟨f1, f2, f3, f4, f5⟩ := HFk.out p s L h e
          exact ⟨f1, f2, by rw [f4, List.take_of_length_le (by omega)], f5⟩)
        obtain ⟨Ar, cr, rfl⟩ := own_form HOk.out
        have hrl : R.length ≤ 1048576 := by omega
        have q0 := HGk.out.cell 0
        have q1 := HGk.out.cell 1
        have q2 := HGk.out.cell 2
        have q3 := HGk.out.cell 3
        have k0 := HGk.out.frozen 0
        have k1 := HGk.out.frozen 1
        have k2 := HGk.out.frozen 2
        have k3 := HGk.out.frozen 3
        have x0 := HSk.out.cell 0
        have x1 := HSk.out.cell 1
        have x2 := HSk.out.cell 2
        have x3 := HSk.out.cell 3
        simp at q0 q1 q2 q3 x0 x1 x2 x3
        cases ok
        · have HNO := Lib.hid (show ∀ p s L, shOk p s L = true → shT p s L ≠ t from fun p s L h e => by
            have := (HFN.out p s L h e).2.2.2
            cases this)
          go_wp2
          exact bodyPost_ret (v := .tuple #[.agg #[.int .i64 0, .int .i64 0, .int .i64 0, .slice none 0 0], .bool false]) (by simp [results, Tryz.results22, go_sem, q0, q1, q2, q3]) rfl (RetPr.no HNO.out ((((HQk.out.setCell HG.out _).setCell HG.out _).setCell HG.out _).setCell HG.out _))
        have C3 := Lib.hid (shGood_any pv ra Ar cr R wr (Mem.of_own HOk.out) hrl)
        cases hok : shOk pv ra R
        · have HNO := Lib.hid (show ∀ p s L, shOk p s L = true → shT p s L ≠ t from fun p s L h e => by
            obtain ⟨f1, f2, f3, -⟩ := HFN.out p s L h e
            rw [← f1, ← f2, ← f3, hok] at h
            cases h)
          rw [hok] at C3
          clear hok
          go_wp2_with fail
          refine C3.out.mono ?_
          rintro e w6 ⟨rfl, hq⟩
          have HG6 := Lib.hid (HGk.out.below hq HGk.out.lt)
          have HQ6 := Lib.hid (Below.next hq HQk.out HQk.out.size)
          clear q0 q1 q2 q3 k0 k1 k2 k3 x0 x1 x2 x3 hq
          have q0 := HG6.out.cell 0
          have q1 := HG6.out.cell 1
          have q2 := HG6.out.cell 2
          have q3 := HG6.out.cell 3
          have k0 := HG6.out.frozen 0
          have k1 := HG6.out.frozen 1
          have k2 := HG6.out.frozen 2
          have k3 := HG6.out.frozen 3
          simp at q0 q1 q2 q3
          go_wp2
          exact bodyPost_ret (v := .tuple #[.agg #[.int .i64 0, .int .i64 0, .int .i64 0, .slice none 0 0], .bool false]) (by simp [results, Tryz.results22, go_sem, q0, q1, q2, q3]) rfl (RetPr.no HNO.out ((((HQ6.out.setCell HG.out _).setCell HG.out _).setCell HG.out _).setCell HG.out _))
        · have HOKK := Lib.hid hok
          rw [hok] at C3
          clear hok
          go_wp2_with fail
          refine C3.out.mono ?_
          rintro e w6 ⟨rfl, hq⟩
          have HG6 := Lib.hid (HGk.out.below hq HGk.out.lt)
          have HQ6 := Lib.hid (Below.next hq HQk.out HQk.out.size)
          have HO6 := Lib.hid (own_below HOk.out hq)
          have y0 := keep1 hq x0
          have y1 := keep1 hq x1
          have y2 := keep1 hq x2
          have y3 := keep1 hq x3
          have HS6 := Lib.hid (HSk.out.below hq hgk)
          have C4 := Lib.hid (shText_any pv ra Ar cr R w6 (Mem.of_own HO6.out) HOKK.out)
          clear q0 q1 q2 q3 k0 k1 k2 k3 x0 x1 x2 x3 hq C3 HGk HQk HOk HSk
          by_cases htx : shT pv ra R = t
          · have HTX := Lib.hid htx
            rw [htx] at C4
            clear htx
            go_wp2_with fail
            refine C4.out.mono ?_
            rintro e w7 ⟨rfl, hq⟩
            have HG7 := Lib.hid (HG6.out.below hq HG6.out.lt)
            have HQ7 := Lib.hid (Below.next hq HQ6.out HQ6.out.size)
            have HO7 := Lib.hid (own_below HO6.out hq)
            have HNG := Lib.hid (show (Value.slice Ar R.length cr).ownBlock ≠ some g from fun e => by have := (HO6.out.lt _ e).1; omega)
            have x0 := keep1 hq y0
            have x1 := keep1 hq y1
            have x2 := keep1 hq y2
            have x3 := keep1 hq y3
            have q0 := HG7.out.cell 0
            have q1 := HG7.out.cell 1
            have q2 := HG7.out.cell 2
            have q3 := HG7.out.cell 3
            have k0 := HG7.out.frozen 0
            have k1 := HG7.out.frozen 1
            have k2 := HG7.out.frozen 2
            have k3 := HG7.out.frozen 3
            simp at q0 q1 q2 q3
            clear y0 y1 y2 y3 hq
            go_wp2
            exact bodyPost_ret (v := .tuple #[.agg #[.int .i64 pv, .int .i64 ra.x, .int .i64 ra.y, .slice Ar R.length cr], .bool true]) (by simp [results, Tryz.results22, go_sem, q0, q1, q2, q3]) rfl (RetPr.yes HOKK.out HTX.out (fun p s L h e => ⟨(HFN.out p s L h e).2.1.symm, (HFN.out p s L h e).1.symm, (HFN.out p s L h e).2.2.1.symm⟩) (own_othP (own_othP (own_othP (own_othP HO7.out HNG.out) HNG.out) HNG.out) HNG.out) rfl (by omega) ((((HQ7.out.setCell HG.out _).setCell HG.out _).setCell HG.out _).setCell HG.out _))
          · have HNO := Lib.hid (show ∀ p s L, shOk p s L = true → shT p s L ≠ t from fun p s L h e => by
              obtain ⟨f1, f2, f3, -⟩ := HFN.out p s L h e
              exact htx (by rw [f1, f2, f3, e]))
            obtain ⟨tx, htx2⟩ : ∃ x, bs (shT pv ra R) = x := ⟨_, rfl⟩
            have hne : (tx.toList == (bs t).toList) = false := by
              rw [← htx2, bs, bs, ByteArray.toList_mk, ByteArray.toList_mk]
              exact beq_eq_false_iff_ne.2 htx
            rw [htx2] at C4
            clear htx htx2
            go_wp2_with fail
            refine C4.out.mono ?_
            rintro e w7 ⟨rfl, hq⟩
            have HG7 := Lib.hid (HG6.out.below hq HG6.out.lt)
            have HQ7 := Lib.hid (Below.next hq HQ6.out HQ6.out.size)
            have q0 := HG7.out.cell 0
            have q1 := HG7.out.cell 1
            have q2 := HG7.out.cell 2
            have q3 := HG7.out.cell 3
            have k0 := HG7.out.frozen 0
            have k1 := HG7.out.frozen 1
            have k2 := HG7.out.frozen 2
            have k3 := HG7.out.frozen 3
            simp at q0 q1 q2 q3
            clear y0 y1 y2 y3 hq
            go_wp2
            exact bodyPost_ret (v := .tuple #[.agg #[.int .i64 0, .int .i64 0, .int .i64 0, .slice none 0 0], .bool false]) (by simp [results, Tryz.results22, go_sem, q0, q1, q2, q3]) rfl (RetPr.no HNO.out ((((HQ7.out.setCell HG.out _).setCell HG.out _).setCell HG.out _).setCell HG.out _))
end Go.Proofs.YtdmgffcabjpihaaGreatDoor
